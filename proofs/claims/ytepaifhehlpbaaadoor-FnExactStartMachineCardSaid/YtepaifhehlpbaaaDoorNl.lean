/- States and faults of blocks, in plain words. -/
import Derived.Test.YtepaifhehlpbaaaDoorNk
namespace Go.SX
open Go.Proofs
set_option maxRecDepth 100000

end Go.SX
