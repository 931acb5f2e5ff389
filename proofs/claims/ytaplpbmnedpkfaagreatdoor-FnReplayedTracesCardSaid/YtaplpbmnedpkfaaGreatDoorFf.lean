/- Closed facts of the program as a whole, each reckoned by the kernel on its own. -/
import Derived.Test.YtaplpbmnedpkfaaGreatDoorRows
import GoSem.ClaimSeven
import Derived.OpenShut
import Derived.Stop.Joined
import Derived.ProofKit
import Derived.KernelRfl
import Derived.JoinedOf
set_option linter.unusedSimpArgs false
set_option linter.unusedVariables false
namespace Go.Proofs.YtaplpbmnedpkfaaGreatDoor
open Go
set_option maxRecDepth 100000
theorem and_tt {a b : Bool} (h : a = true) (h' : b = true) : (a && b) = true := by rw [h, h']; rfl
theorem s_laid : laidOutB Tryz.pinned.checked.prog = true := by kernel_rfl
theorem s_maps : mapsRowed Tryz.pinned.checked.prog = true := by kernel_rfl
theorem s_stops : (Tryz.pinned.checked.prog.stops == []) = true := by kernel_rfl
theorem s_knobs : (Tryz.pinned.checked.prog.stopKnobs == []) = true := by kernel_rfl
theorem s_plain : (Rows.fnReplayedTracesRow.plainKeys == Tryz.pinned.checked.prog.plainKeys) = true := by kernel_rfl
theorem s_heard : Tryz.pinned.checked.prog.stopsHeard = true := by kernel_rfl
theorem s_enter : Tryz.pinned.checked.prog.mayEnter = true := by kernel_rfl
theorem s_lifts : (Rows.fnReplayedTracesRow.lifted == Tryz.pinned.checked.prog.liftsFinal) = true := by kernel_rfl
theorem s_make : (Tryz.pinned.checked.prog.make == some Rows.fnReplayedTracesRow.make) = true := by kernel_rfl
theorem s_main : Tryz.pinned.checked.prog.mainIs = some (true, "f85c4a76ca6b5753f46ce29241b2f3b00bf9466191194b44779822e911c4d4bd".toList) := by kernel_rfl
theorem s_looks : false = Tryz.pinned.checked.prog.looks [] := by kernel_rfl
end Go.Proofs.YtaplpbmnedpkfaaGreatDoor
