/- The program's StepBlock answers as the reference's: in plain words. -/
import Derived.Test.YtepaifhehlpbaaaDoorRg
import Derived.Test.YtepaifhehlpbaaaDoorTXi
namespace Go.SX
open Go.Proofs
set_option maxRecDepth 100000

end Go.SX
