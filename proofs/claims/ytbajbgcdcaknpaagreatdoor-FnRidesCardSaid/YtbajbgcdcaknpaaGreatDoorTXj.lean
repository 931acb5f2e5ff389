import Derived.Test.YtbajbgcdcaknpaaGreatDoorTXi
import Derived.LaidMore
import Derived.OpenVars
import Derived.MakeChecks
set_option linter.unusedSimpArgs false
set_option linter.unusedVariables false
namespace Go.SX
open Go.RowKit
section
variable{H:Type}{enc:TypeId×Value→H}{P:Program}{w:World}{base:Nat}{sp:Nat→Bool}{held:Bool}
end
end Go.SX
