/- Faults of sensors, in plain words. -/
import Derived.Test.YtjncnnpdaeociaaRk
import Derived.Test.YtjncnnpdaeociaaNi
namespace Go.SX
open Go.Proofs
set_option maxRecDepth 100000

/-! ### Copies and comparisons of faults -/

end Go.SX
