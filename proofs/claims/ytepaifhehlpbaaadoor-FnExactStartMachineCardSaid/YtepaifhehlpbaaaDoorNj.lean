/- Steps and runs of blocks: rows in plain words. -/
import Derived.Test.YtepaifhehlpbaaaDoorNi
namespace Go.SX
open Go.Proofs
set_option maxRecDepth 100000

end Go.SX
