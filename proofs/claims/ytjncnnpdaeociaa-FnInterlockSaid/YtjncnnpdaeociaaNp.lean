/- Replays, in plain words: events, and the faults of statuses. -/
import Derived.Test.YtjncnnpdaeociaaRp
namespace Go.SX
open Go.Proofs
set_option maxRecDepth 100000

end Go.SX
