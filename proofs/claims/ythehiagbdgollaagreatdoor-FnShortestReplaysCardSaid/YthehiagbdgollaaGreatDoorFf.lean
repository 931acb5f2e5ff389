/- Closed facts of the program as a whole, each reckoned by the kernel on its own. -/
import Derived.Test.YthehiagbdgollaaGreatDoorRows
import GoSem.ClaimSeven
import Derived.OpenShut
import Derived.Stop.Joined
import Derived.ProofKit
import Derived.KernelRfl
import Derived.JoinedOf
set_option linter.unusedSimpArgs false
set_option linter.unusedVariables false
namespace Go.Proofs.YthehiagbdgollaaGreatDoor
open Go
set_option maxRecDepth 100000
theorem and_tt {a b : Bool} (h : a = true) (h' : b = true) : (a && b) = true := by rw [h, h']; rfl
theorem s_laid : laidOutB Tryz.pinned.checked.prog = true := by kernel_rfl
theorem s_maps : mapsRowed Tryz.pinned.checked.prog = true := by kernel_rfl
theorem s_stops : (Tryz.pinned.checked.prog.stops == []) = true := by kernel_rfl
theorem s_knobs : (Tryz.pinned.checked.prog.stopKnobs == []) = true := by kernel_rfl
theorem s_plain : (Rows.fnShortestReplaysRow.plainKeys == Tryz.pinned.checked.prog.plainKeys) = true := by kernel_rfl
theorem s_heard : Tryz.pinned.checked.prog.stopsHeard = true := by kernel_rfl
theorem s_enter : Tryz.pinned.checked.prog.mayEnter = true := by kernel_rfl
theorem s_lifts : (Rows.fnShortestReplaysRow.lifted == Tryz.pinned.checked.prog.liftsFinal) = true := by kernel_rfl
theorem s_make : (Tryz.pinned.checked.prog.make == some Rows.fnShortestReplaysRow.make) = true := by kernel_rfl
theorem s_main : Tryz.pinned.checked.prog.mainIs = some (true, "d6d48baa8d2d59bb91d220986cb7da506d6ac6f06d457b3704bf44ba9cd41b91".toList) := by kernel_rfl
theorem s_looks : false = Tryz.pinned.checked.prog.looks [] := by kernel_rfl
end Go.Proofs.YthehiagbdgollaaGreatDoor
