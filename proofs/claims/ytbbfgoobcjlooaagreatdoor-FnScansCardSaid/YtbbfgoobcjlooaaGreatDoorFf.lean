/- Closed facts of the program as a whole, each reckoned by the kernel on its own. -/
import Derived.Test.YtbbfgoobcjlooaaGreatDoorRows
import GoSem.ClaimSeven
import Derived.OpenShut
import Derived.Stop.Joined
import Derived.ProofKit
import Derived.KernelRfl
import Derived.JoinedOf
set_option linter.unusedSimpArgs false
set_option linter.unusedVariables false
namespace Go.Proofs.YtbbfgoobcjlooaaGreatDoor
open Go
set_option maxRecDepth 100000
theorem and_tt {a b : Bool} (h : a = true) (h' : b = true) : (a && b) = true := by rw [h, h']; rfl
theorem s_laid : laidOutB Tryz.pinned.checked.prog = true := by kernel_rfl
theorem s_maps : mapsRowed Tryz.pinned.checked.prog = true := by kernel_rfl
theorem s_stops : (Tryz.pinned.checked.prog.stops == []) = true := by kernel_rfl
theorem s_knobs : (Tryz.pinned.checked.prog.stopKnobs == []) = true := by kernel_rfl
theorem s_plain : (Rows.fnExactRunCodesRow.plainKeys == Tryz.pinned.checked.prog.plainKeys) = true := by kernel_rfl
theorem s_heard : Tryz.pinned.checked.prog.stopsHeard = true := by kernel_rfl
theorem s_enter : Tryz.pinned.checked.prog.mayEnter = true := by kernel_rfl
theorem s_lifts : (Rows.fnExactRunCodesRow.lifted == Tryz.pinned.checked.prog.liftsFinal) = true := by kernel_rfl
theorem s_make : (Tryz.pinned.checked.prog.make == some Rows.fnExactRunCodesRow.make) = true := by kernel_rfl
theorem s_main : Tryz.pinned.checked.prog.mainIs = some (true, "f79fccba28510d3fd8a1799a94b92fd967d2a093064fe3e251c1ae45b3851032".toList) := by kernel_rfl
theorem s_looks : false = Tryz.pinned.checked.prog.looks [] := by kernel_rfl
end Go.Proofs.YtbbfgoobcjlooaaGreatDoor
