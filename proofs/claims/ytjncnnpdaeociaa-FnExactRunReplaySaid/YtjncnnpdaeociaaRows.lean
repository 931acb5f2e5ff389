/-
  No cell of these rows narrows 'for every input' (looked for: loops, veiled, ifaces, maps, wideKeys, modest, calm, conditions, laid).
  DERIVED. THE GIVEN ROWS OF THIS SEAT. 12 by the template 'for every input the law returns true; each argument reads behind the call as it read before'; 0 by the template 'total and deterministic' (their statements: YtjncnnpdaeociaaTotals.lean).
  GIVEN WITH THE SEED: the statements are not yours to turn. If you find one false, say at which input.
  Laid BY PROGRAM, IN A SANDBOX (cutbox-rows.mjs): the forced cells as the released guide's own fill.sh prints them over the translation 8a3ece7629ed0707… (all of the seat's roots in one cut). By AI agents, Wed Nov 11 2026. No macro, syntax, notation, axiom, sorry.
-/
import Derived.Test.YtjncnnpdaeociaaChecked
import GoSem.Claim
import GoSem.ClaimJoined
import GoSem.ClaimMapViews
import Derived.JoinedTies
import Derived.KernelRfl
namespace Go.Proofs.Ytjncnnpdaeociaa
/- THE CELL 'sum', in the pinned program and in every row, IS THE sha256 OF THE DUMP (.gsa) THAT YtjncnnpdaeociaaProg.lean LOADS. Nothing in Lean hashes anything: it is a label: what it is worth is what the hold of that sum in a sandbox is worth. -/
noncomputable def Try.pinned : Pinned := { name := "ytjncnnpdaeociaa", sum := "8a3ece7629ed0707abc8552538f1abf7c4213071e6c467c4da0d0c10c8d8955d", checked := Try.checked }
namespace Rows
def none {H : Type} : Left H := { results := [], args := [] }

/-- 'laws.FnExactMovedTrain': WHATEVER THE INPUT: true; the input reads as it did. -/
def fnExactMovedTrainSpec : ChangeSpec := { name := "fnExactMovedTrain", fn := fun _ => fun
  | [d1, d2] => { results := [.lit (.bool true)], args := [d1, d2] }
  | _ => none }
def fnExactMovedTrainRow : OpenClaim := { program := "ytjncnnpdaeociaa", sum := "8a3ece7629ed0707abc8552538f1abf7c4213071e6c467c4da0d0c10c8d8955d", func := "loop.example/g00916/laws.FnExactMovedTrain", spec := "fnExactMovedTrain", unfollowed := true, recurses := true, apart := false }
def FnExactMovedTrainSaid : Prop := fnExactMovedTrainRow.holds Try.pinned (OpenSpec.ofChange fnExactMovedTrainSpec)

/-- ITS FALSE NEIGHBOUR: 'it returns false'. Refute it at one input. -/
def fnExactMovedTrainWrong : ChangeSpec := { name := "fnExactMovedTrain", fn := fun _ => fun
  | [d1, d2] => { results := [.lit (.bool false)], args := [d1, d2] }
  | _ => none }
def FnExactMovedTrainWrongFalsely : Prop := fnExactMovedTrainRow.holds Try.pinned (OpenSpec.ofChange fnExactMovedTrainWrong)

/-- 'laws.FnAppended': WHATEVER THE INPUT: true; the input reads as it did. -/
def fnAppendedSpec : ChangeSpec := { name := "fnAppended", fn := fun _ => fun
  | [d] => { results := [.lit (.bool true)], args := [d] }
  | _ => none }
def fnAppendedRow : OpenClaim := { program := "ytjncnnpdaeociaa", sum := "8a3ece7629ed0707abc8552538f1abf7c4213071e6c467c4da0d0c10c8d8955d", func := "loop.example/g00916/laws.FnAppended", spec := "fnAppended", unfollowed := true, recurses := true, apart := false }
def FnAppendedSaid : Prop := fnAppendedRow.holds Try.pinned (OpenSpec.ofChange fnAppendedSpec)

/-- ITS FALSE NEIGHBOUR: 'it returns false'. Refute it at one input. -/
def fnAppendedWrong : ChangeSpec := { name := "fnAppended", fn := fun _ => fun
  | [d] => { results := [.lit (.bool false)], args := [d] }
  | _ => none }
def FnAppendedWrongFalsely : Prop := fnAppendedRow.holds Try.pinned (OpenSpec.ofChange fnAppendedWrong)

/-- 'laws.FnExactAllowedMoves': WHATEVER THE INPUT: true; the input reads as it did. -/
def fnExactAllowedMovesSpec : ChangeSpec := { name := "fnExactAllowedMoves", fn := fun _ => fun
  | [d] => { results := [.lit (.bool true)], args := [d] }
  | _ => none }
def fnExactAllowedMovesRow : OpenClaim := { program := "ytjncnnpdaeociaa", sum := "8a3ece7629ed0707abc8552538f1abf7c4213071e6c467c4da0d0c10c8d8955d", func := "loop.example/g00916/laws.FnExactAllowedMoves", spec := "fnExactAllowedMoves", unfollowed := true, recurses := true, apart := false }
def FnExactAllowedMovesSaid : Prop := fnExactAllowedMovesRow.holds Try.pinned (OpenSpec.ofChange fnExactAllowedMovesSpec)

/-- ITS FALSE NEIGHBOUR: 'it returns false'. Refute it at one input. -/
def fnExactAllowedMovesWrong : ChangeSpec := { name := "fnExactAllowedMoves", fn := fun _ => fun
  | [d] => { results := [.lit (.bool false)], args := [d] }
  | _ => none }
def FnExactAllowedMovesWrongFalsely : Prop := fnExactAllowedMovesRow.holds Try.pinned (OpenSpec.ofChange fnExactAllowedMovesWrong)

/-- 'laws.FnExactRunMoves': WHATEVER THE INPUT: true; the input reads as it did. -/
def fnExactRunMovesSpec : ChangeSpec := { name := "fnExactRunMoves", fn := fun _ => fun
  | [d1, d2] => { results := [.lit (.bool true)], args := [d1, d2] }
  | _ => none }
def fnExactRunMovesRow : OpenClaim := { program := "ytjncnnpdaeociaa", sum := "8a3ece7629ed0707abc8552538f1abf7c4213071e6c467c4da0d0c10c8d8955d", func := "loop.example/g00916/laws.FnExactRunMoves", spec := "fnExactRunMoves", unfollowed := true, recurses := true, apart := false }
def FnExactRunMovesSaid : Prop := fnExactRunMovesRow.holds Try.pinned (OpenSpec.ofChange fnExactRunMovesSpec)

/-- ITS FALSE NEIGHBOUR: 'it returns false'. Refute it at one input. -/
def fnExactRunMovesWrong : ChangeSpec := { name := "fnExactRunMoves", fn := fun _ => fun
  | [d1, d2] => { results := [.lit (.bool false)], args := [d1, d2] }
  | _ => none }
def FnExactRunMovesWrongFalsely : Prop := fnExactRunMovesRow.holds Try.pinned (OpenSpec.ofChange fnExactRunMovesWrong)

/-- 'laws.FnTrafficMoves': WHATEVER THE INPUT: true; the input reads as it did. -/
def fnTrafficMovesSpec : ChangeSpec := { name := "fnTrafficMoves", fn := fun _ => fun
  | [d] => { results := [.lit (.bool true)], args := [d] }
  | _ => none }
def fnTrafficMovesRow : OpenClaim := { program := "ytjncnnpdaeociaa", sum := "8a3ece7629ed0707abc8552538f1abf7c4213071e6c467c4da0d0c10c8d8955d", func := "loop.example/g00916/laws.FnTrafficMoves", spec := "fnTrafficMoves", unfollowed := true, recurses := true, apart := false }
def FnTrafficMovesSaid : Prop := fnTrafficMovesRow.holds Try.pinned (OpenSpec.ofChange fnTrafficMovesSpec)

/-- ITS FALSE NEIGHBOUR: 'it returns false'. Refute it at one input. -/
def fnTrafficMovesWrong : ChangeSpec := { name := "fnTrafficMoves", fn := fun _ => fun
  | [d] => { results := [.lit (.bool false)], args := [d] }
  | _ => none }
def FnTrafficMovesWrongFalsely : Prop := fnTrafficMovesRow.holds Try.pinned (OpenSpec.ofChange fnTrafficMovesWrong)

/-- 'laws.FnTrafficRuns': WHATEVER THE INPUT: true; the input reads as it did. -/
def fnTrafficRunsSpec : ChangeSpec := { name := "fnTrafficRuns", fn := fun _ => fun
  | [d] => { results := [.lit (.bool true)], args := [d] }
  | _ => none }
def fnTrafficRunsRow : OpenClaim := { program := "ytjncnnpdaeociaa", sum := "8a3ece7629ed0707abc8552538f1abf7c4213071e6c467c4da0d0c10c8d8955d", func := "loop.example/g00916/laws.FnTrafficRuns", spec := "fnTrafficRuns", unfollowed := true, recurses := true, apart := false }
def FnTrafficRunsSaid : Prop := fnTrafficRunsRow.holds Try.pinned (OpenSpec.ofChange fnTrafficRunsSpec)

/-- ITS FALSE NEIGHBOUR: 'it returns false'. Refute it at one input. -/
def fnTrafficRunsWrong : ChangeSpec := { name := "fnTrafficRuns", fn := fun _ => fun
  | [d] => { results := [.lit (.bool false)], args := [d] }
  | _ => none }
def FnTrafficRunsWrongFalsely : Prop := fnTrafficRunsRow.holds Try.pinned (OpenSpec.ofChange fnTrafficRunsWrong)

/-- 'laws.FnExactFirstCollision': WHATEVER THE INPUT: true; the input reads as it did. -/
def fnExactFirstCollisionSpec : ChangeSpec := { name := "fnExactFirstCollision", fn := fun _ => fun
  | [d1, d2, d3] => { results := [.lit (.bool true)], args := [d1, d2, d3] }
  | _ => none }
def fnExactFirstCollisionRow : OpenClaim := { program := "ytjncnnpdaeociaa", sum := "8a3ece7629ed0707abc8552538f1abf7c4213071e6c467c4da0d0c10c8d8955d", func := "loop.example/g00916/laws.FnExactFirstCollision", spec := "fnExactFirstCollision", unfollowed := true, recurses := true, apart := false }
def FnExactFirstCollisionSaid : Prop := fnExactFirstCollisionRow.holds Try.pinned (OpenSpec.ofChange fnExactFirstCollisionSpec)

/-- ITS FALSE NEIGHBOUR: 'it returns false'. Refute it at one input. -/
def fnExactFirstCollisionWrong : ChangeSpec := { name := "fnExactFirstCollision", fn := fun _ => fun
  | [d1, d2, d3] => { results := [.lit (.bool false)], args := [d1, d2, d3] }
  | _ => none }
def FnExactFirstCollisionWrongFalsely : Prop := fnExactFirstCollisionRow.holds Try.pinned (OpenSpec.ofChange fnExactFirstCollisionWrong)

/-- 'laws.FnExactControlledRun': WHATEVER THE INPUT: true; the input reads as it did. -/
def fnExactControlledRunSpec : ChangeSpec := { name := "fnExactControlledRun", fn := fun _ => fun
  | [d1, d2, d3] => { results := [.lit (.bool true)], args := [d1, d2, d3] }
  | _ => none }
def fnExactControlledRunRow : OpenClaim := { program := "ytjncnnpdaeociaa", sum := "8a3ece7629ed0707abc8552538f1abf7c4213071e6c467c4da0d0c10c8d8955d", func := "loop.example/g00916/laws.FnExactControlledRun", spec := "fnExactControlledRun", unfollowed := true, recurses := true, apart := false }
def FnExactControlledRunSaid : Prop := fnExactControlledRunRow.holds Try.pinned (OpenSpec.ofChange fnExactControlledRunSpec)

/-- ITS FALSE NEIGHBOUR: 'it returns false'. Refute it at one input. -/
def fnExactControlledRunWrong : ChangeSpec := { name := "fnExactControlledRun", fn := fun _ => fun
  | [d1, d2, d3] => { results := [.lit (.bool false)], args := [d1, d2, d3] }
  | _ => none }
def FnExactControlledRunWrongFalsely : Prop := fnExactControlledRunRow.holds Try.pinned (OpenSpec.ofChange fnExactControlledRunWrong)

/-- 'laws.FnExactUnsafeAfter': WHATEVER THE INPUT: true; the input reads as it did. -/
def fnExactUnsafeAfterSpec : ChangeSpec := { name := "fnExactUnsafeAfter", fn := fun _ => fun
  | [d1, d2] => { results := [.lit (.bool true)], args := [d1, d2] }
  | _ => none }
def fnExactUnsafeAfterRow : OpenClaim := { program := "ytjncnnpdaeociaa", sum := "8a3ece7629ed0707abc8552538f1abf7c4213071e6c467c4da0d0c10c8d8955d", func := "loop.example/g00916/laws.FnExactUnsafeAfter", spec := "fnExactUnsafeAfter", unfollowed := true, recurses := true, apart := false }
def FnExactUnsafeAfterSaid : Prop := fnExactUnsafeAfterRow.holds Try.pinned (OpenSpec.ofChange fnExactUnsafeAfterSpec)

/-- ITS FALSE NEIGHBOUR: 'it returns false'. Refute it at one input. -/
def fnExactUnsafeAfterWrong : ChangeSpec := { name := "fnExactUnsafeAfter", fn := fun _ => fun
  | [d1, d2] => { results := [.lit (.bool false)], args := [d1, d2] }
  | _ => none }
def FnExactUnsafeAfterWrongFalsely : Prop := fnExactUnsafeAfterRow.holds Try.pinned (OpenSpec.ofChange fnExactUnsafeAfterWrong)

/-- 'laws.FnInterlock': WHATEVER THE INPUT: true; the input reads as it did. -/
def fnInterlockSpec : ChangeSpec := { name := "fnInterlock", fn := fun _ => fun
  | [d] => { results := [.lit (.bool true)], args := [d] }
  | _ => none }
def fnInterlockRow : OpenClaim := { program := "ytjncnnpdaeociaa", sum := "8a3ece7629ed0707abc8552538f1abf7c4213071e6c467c4da0d0c10c8d8955d", func := "loop.example/g00916/laws.FnInterlock", spec := "fnInterlock", unfollowed := true, recurses := true, apart := false }
def FnInterlockSaid : Prop := fnInterlockRow.holds Try.pinned (OpenSpec.ofChange fnInterlockSpec)

/-- ITS FALSE NEIGHBOUR: 'it returns false'. Refute it at one input. -/
def fnInterlockWrong : ChangeSpec := { name := "fnInterlock", fn := fun _ => fun
  | [d] => { results := [.lit (.bool false)], args := [d] }
  | _ => none }
def FnInterlockWrongFalsely : Prop := fnInterlockRow.holds Try.pinned (OpenSpec.ofChange fnInterlockWrong)

/-- 'laws.FnReplays': WHATEVER THE INPUT: true; the input reads as it did. -/
def fnReplaysSpec : ChangeSpec := { name := "fnReplays", fn := fun _ => fun
  | [d] => { results := [.lit (.bool true)], args := [d] }
  | _ => none }
def fnReplaysRow : OpenClaim := { program := "ytjncnnpdaeociaa", sum := "8a3ece7629ed0707abc8552538f1abf7c4213071e6c467c4da0d0c10c8d8955d", func := "loop.example/g00916/laws.FnReplays", spec := "fnReplays", unfollowed := true, recurses := true, apart := false }
def FnReplaysSaid : Prop := fnReplaysRow.holds Try.pinned (OpenSpec.ofChange fnReplaysSpec)

/-- ITS FALSE NEIGHBOUR: 'it returns false'. Refute it at one input. -/
def fnReplaysWrong : ChangeSpec := { name := "fnReplays", fn := fun _ => fun
  | [d] => { results := [.lit (.bool false)], args := [d] }
  | _ => none }
def FnReplaysWrongFalsely : Prop := fnReplaysRow.holds Try.pinned (OpenSpec.ofChange fnReplaysWrong)

/-- 'laws.FnExactRunReplay': WHATEVER THE INPUT: true; the input reads as it did. -/
def fnExactRunReplaySpec : ChangeSpec := { name := "fnExactRunReplay", fn := fun _ => fun
  | [d1, d2] => { results := [.lit (.bool true)], args := [d1, d2] }
  | _ => none }
def fnExactRunReplayRow : OpenClaim := { program := "ytjncnnpdaeociaa", sum := "8a3ece7629ed0707abc8552538f1abf7c4213071e6c467c4da0d0c10c8d8955d", func := "loop.example/g00916/laws.FnExactRunReplay", spec := "fnExactRunReplay", unfollowed := true, recurses := true, apart := false }
def FnExactRunReplaySaid : Prop := fnExactRunReplayRow.holds Try.pinned (OpenSpec.ofChange fnExactRunReplaySpec)

/-- ITS FALSE NEIGHBOUR: 'it returns false'. Refute it at one input. -/
def fnExactRunReplayWrong : ChangeSpec := { name := "fnExactRunReplay", fn := fun _ => fun
  | [d1, d2] => { results := [.lit (.bool false)], args := [d1, d2] }
  | _ => none }
def FnExactRunReplayWrongFalsely : Prop := fnExactRunReplayRow.holds Try.pinned (OpenSpec.ofChange fnExactRunReplayWrong)

/- THE SECOND FORM. 'bulk': how many values and letters a reading holds, each counted each time it is reached (what is shared counts as often as it is met; a slice's spare places count too). A statement '..UptoSaid' is the law's where the arguments, and the package variables that the reading takes, are together of bulk at most 1048576: NARROWER than '..Said'. Prove '..Said' where nothing that the law and all that it calls make is longer than what came in: it says more and counts as full. Else prove '..UptoSaid'. A law counts once. -/
mutual
def uptoBulk {H : Type} : DataW H → Nat
  | .lit (.string bytes) => bytes.length + 1
  | .lit _ => 1
  | .nil => 1
  | .ptr d => uptoBulk d + 1
  | .slice elems spare => uptoBulkAll elems + uptoBulkAll spare + 1
  | .agg parts => uptoBulkAll parts + 1
  | .iface _ d => uptoBulk d + 1
  | .map entries => uptoBulkEntries entries + 1
  | .held _ => 1
def uptoBulkAll {H : Type} : List (DataW H) → Nat
  | [] => 0
  | d :: r => uptoBulk d + uptoBulkAll r
def uptoBulkEntries {H : Type} : List (Lit × DataW H) → Nat
  | [] => 0
  | x :: r => uptoBulkEntry x + uptoBulkEntries r
def uptoBulkEntry {H : Type} : Lit × DataW H → Nat
  | (.string bytes, d) => bytes.length + uptoBulk d + 1
  | (_, d) => uptoBulk d + 1
 end
def uptoSmall : (H : Type) → List (DataW H) → Bool := fun _ ds => decide (uptoBulkAll ds ≤ 1048576)
def OpenSpec.upto (s : _root_.Go.ChangeSpec) : _root_.Go.OpenSpec := { _root_.Go.OpenSpec.ofChange s with cond := some uptoSmall }

/-- 'laws.FnExactMovedTrain', WHERE WHAT IT READS IS OF BULK AT MOST 1048576: true; the input reads as it did. -/
def fnExactMovedTrainUptoRow : OpenClaim := { program := "ytjncnnpdaeociaa", sum := "8a3ece7629ed0707abc8552538f1abf7c4213071e6c467c4da0d0c10c8d8955d", func := "loop.example/g00916/laws.FnExactMovedTrain", spec := "fnExactMovedTrain", unfollowed := true, recurses := true, apart := false, narrowed := true }
def FnExactMovedTrainUptoSaid : Prop := fnExactMovedTrainUptoRow.holds Try.pinned (OpenSpec.upto fnExactMovedTrainSpec)

/-- 'laws.FnAppended', WHERE WHAT IT READS IS OF BULK AT MOST 1048576: true; the input reads as it did. -/
def fnAppendedUptoRow : OpenClaim := { program := "ytjncnnpdaeociaa", sum := "8a3ece7629ed0707abc8552538f1abf7c4213071e6c467c4da0d0c10c8d8955d", func := "loop.example/g00916/laws.FnAppended", spec := "fnAppended", unfollowed := true, recurses := true, apart := false, narrowed := true }
def FnAppendedUptoSaid : Prop := fnAppendedUptoRow.holds Try.pinned (OpenSpec.upto fnAppendedSpec)

/-- 'laws.FnExactAllowedMoves', WHERE WHAT IT READS IS OF BULK AT MOST 1048576: true; the input reads as it did. -/
def fnExactAllowedMovesUptoRow : OpenClaim := { program := "ytjncnnpdaeociaa", sum := "8a3ece7629ed0707abc8552538f1abf7c4213071e6c467c4da0d0c10c8d8955d", func := "loop.example/g00916/laws.FnExactAllowedMoves", spec := "fnExactAllowedMoves", unfollowed := true, recurses := true, apart := false, narrowed := true }
def FnExactAllowedMovesUptoSaid : Prop := fnExactAllowedMovesUptoRow.holds Try.pinned (OpenSpec.upto fnExactAllowedMovesSpec)

/-- 'laws.FnExactRunMoves', WHERE WHAT IT READS IS OF BULK AT MOST 1048576: true; the input reads as it did. -/
def fnExactRunMovesUptoRow : OpenClaim := { program := "ytjncnnpdaeociaa", sum := "8a3ece7629ed0707abc8552538f1abf7c4213071e6c467c4da0d0c10c8d8955d", func := "loop.example/g00916/laws.FnExactRunMoves", spec := "fnExactRunMoves", unfollowed := true, recurses := true, apart := false, narrowed := true }
def FnExactRunMovesUptoSaid : Prop := fnExactRunMovesUptoRow.holds Try.pinned (OpenSpec.upto fnExactRunMovesSpec)

/-- 'laws.FnTrafficMoves', WHERE WHAT IT READS IS OF BULK AT MOST 1048576: true; the input reads as it did. -/
def fnTrafficMovesUptoRow : OpenClaim := { program := "ytjncnnpdaeociaa", sum := "8a3ece7629ed0707abc8552538f1abf7c4213071e6c467c4da0d0c10c8d8955d", func := "loop.example/g00916/laws.FnTrafficMoves", spec := "fnTrafficMoves", unfollowed := true, recurses := true, apart := false, narrowed := true }
def FnTrafficMovesUptoSaid : Prop := fnTrafficMovesUptoRow.holds Try.pinned (OpenSpec.upto fnTrafficMovesSpec)

/-- 'laws.FnTrafficRuns', WHERE WHAT IT READS IS OF BULK AT MOST 1048576: true; the input reads as it did. -/
def fnTrafficRunsUptoRow : OpenClaim := { program := "ytjncnnpdaeociaa", sum := "8a3ece7629ed0707abc8552538f1abf7c4213071e6c467c4da0d0c10c8d8955d", func := "loop.example/g00916/laws.FnTrafficRuns", spec := "fnTrafficRuns", unfollowed := true, recurses := true, apart := false, narrowed := true }
def FnTrafficRunsUptoSaid : Prop := fnTrafficRunsUptoRow.holds Try.pinned (OpenSpec.upto fnTrafficRunsSpec)

/-- 'laws.FnExactFirstCollision', WHERE WHAT IT READS IS OF BULK AT MOST 1048576: true; the input reads as it did. -/
def fnExactFirstCollisionUptoRow : OpenClaim := { program := "ytjncnnpdaeociaa", sum := "8a3ece7629ed0707abc8552538f1abf7c4213071e6c467c4da0d0c10c8d8955d", func := "loop.example/g00916/laws.FnExactFirstCollision", spec := "fnExactFirstCollision", unfollowed := true, recurses := true, apart := false, narrowed := true }
def FnExactFirstCollisionUptoSaid : Prop := fnExactFirstCollisionUptoRow.holds Try.pinned (OpenSpec.upto fnExactFirstCollisionSpec)

/-- 'laws.FnExactControlledRun', WHERE WHAT IT READS IS OF BULK AT MOST 1048576: true; the input reads as it did. -/
def fnExactControlledRunUptoRow : OpenClaim := { program := "ytjncnnpdaeociaa", sum := "8a3ece7629ed0707abc8552538f1abf7c4213071e6c467c4da0d0c10c8d8955d", func := "loop.example/g00916/laws.FnExactControlledRun", spec := "fnExactControlledRun", unfollowed := true, recurses := true, apart := false, narrowed := true }
def FnExactControlledRunUptoSaid : Prop := fnExactControlledRunUptoRow.holds Try.pinned (OpenSpec.upto fnExactControlledRunSpec)

/-- 'laws.FnExactUnsafeAfter', WHERE WHAT IT READS IS OF BULK AT MOST 1048576: true; the input reads as it did. -/
def fnExactUnsafeAfterUptoRow : OpenClaim := { program := "ytjncnnpdaeociaa", sum := "8a3ece7629ed0707abc8552538f1abf7c4213071e6c467c4da0d0c10c8d8955d", func := "loop.example/g00916/laws.FnExactUnsafeAfter", spec := "fnExactUnsafeAfter", unfollowed := true, recurses := true, apart := false, narrowed := true }
def FnExactUnsafeAfterUptoSaid : Prop := fnExactUnsafeAfterUptoRow.holds Try.pinned (OpenSpec.upto fnExactUnsafeAfterSpec)

/-- 'laws.FnInterlock', WHERE WHAT IT READS IS OF BULK AT MOST 1048576: true; the input reads as it did. -/
def fnInterlockUptoRow : OpenClaim := { program := "ytjncnnpdaeociaa", sum := "8a3ece7629ed0707abc8552538f1abf7c4213071e6c467c4da0d0c10c8d8955d", func := "loop.example/g00916/laws.FnInterlock", spec := "fnInterlock", unfollowed := true, recurses := true, apart := false, narrowed := true }
def FnInterlockUptoSaid : Prop := fnInterlockUptoRow.holds Try.pinned (OpenSpec.upto fnInterlockSpec)

/-- 'laws.FnReplays', WHERE WHAT IT READS IS OF BULK AT MOST 1048576: true; the input reads as it did. -/
def fnReplaysUptoRow : OpenClaim := { program := "ytjncnnpdaeociaa", sum := "8a3ece7629ed0707abc8552538f1abf7c4213071e6c467c4da0d0c10c8d8955d", func := "loop.example/g00916/laws.FnReplays", spec := "fnReplays", unfollowed := true, recurses := true, apart := false, narrowed := true }
def FnReplaysUptoSaid : Prop := fnReplaysUptoRow.holds Try.pinned (OpenSpec.upto fnReplaysSpec)

/-- 'laws.FnExactRunReplay', WHERE WHAT IT READS IS OF BULK AT MOST 1048576: true; the input reads as it did. -/
def fnExactRunReplayUptoRow : OpenClaim := { program := "ytjncnnpdaeociaa", sum := "8a3ece7629ed0707abc8552538f1abf7c4213071e6c467c4da0d0c10c8d8955d", func := "loop.example/g00916/laws.FnExactRunReplay", spec := "fnExactRunReplay", unfollowed := true, recurses := true, apart := false, narrowed := true }
def FnExactRunReplayUptoSaid : Prop := fnExactRunReplayUptoRow.holds Try.pinned (OpenSpec.upto fnExactRunReplaySpec)

end Rows
end Go.Proofs.Ytjncnnpdaeociaa
