/- The program's ScansUntil answers as the reference's: in plain words. -/
import Derived.Test.YtepaifhehlpbaaaDoorLa
namespace Go.SX
open Go.Proofs
set_option maxRecDepth 100000

/-! ### The two loops -/

end Go.SX
