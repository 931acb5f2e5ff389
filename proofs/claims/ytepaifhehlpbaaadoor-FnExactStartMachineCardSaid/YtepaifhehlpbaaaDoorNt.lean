/- What is drawn: the source of numbers stays a source, and nothing that is drawn stops the program. -/
import Derived.Test.YtepaifhehlpbaaaDoorRt
namespace Go.SX
open Go.Proofs
set_option maxRecDepth 100000

/-! ### The source -/

end Go.SX
