/- Replays, in plain words: what events lead to. -/
import Derived.Test.YtjncnnpdaeociaaRq
namespace Go.SX
open Go.Proofs
set_option maxRecDepth 100000

theorem hasT_len {ps qs : List Int} {t : Int} (h : hasT ps t = true) (hl : qs.length = ps.length) : hasT qs t = true := by
  have := hasT_iff.1 h; exact hasT_iff.2 (by omega)

end Go.SX
