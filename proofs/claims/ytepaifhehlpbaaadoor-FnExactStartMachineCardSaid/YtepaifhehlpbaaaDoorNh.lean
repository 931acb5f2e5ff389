/- Lists of lists: copies, comparisons, marks; in plain words. -/
import Derived.Test.YtepaifhehlpbaaaDoorRh
namespace Go.SX
open Go.Proofs
set_option maxRecDepth 100000

end Go.SX
