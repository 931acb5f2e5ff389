/- What functions of the program come to, row by row (made by a program of the workplace). -/
import Derived.Test.YtepaifhehlpbaaaDoorTXh
import Derived.Test.YtepaifhehlpbaaaDoorProg
import Derived.Test.YtepaifhehlpbaaaDoorRg
import Derived.Test.YtepaifhehlpbaaaDoorNh
namespace Go.SX
open Go.Proofs
set_option maxRecDepth 100000

end Go.SX
