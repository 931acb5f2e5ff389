/- Runs of blocks, in plain words. -/
import Derived.Test.YtepaifhehlpbaaaDoorRi
import Derived.Test.YtepaifhehlpbaaaDoorLb
namespace Go.SX
open Go.Proofs
set_option maxRecDepth 100000

end Go.SX
