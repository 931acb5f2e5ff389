/- The program's ScansUntil answers as the reference's: in plain words. -/
import Derived.Test.YtepaifhehlpbaaaDoorLa
namespace Go.SX
open Go.Proofs
set_option maxRecDepth 100000

/-- A block's state. -/
abbrev BS := Int × Int × Int

def nextB (k n : Int) (l : List Int) (s : BS) : BS := (spec_l15Step_1 k n s.1 s.2.1 s.2.2 l, spec_l15Step_2 k s.2.1 s.2.2 l, spec_l15Step_3 k n s.1 s.2.2 l)
def valB (k n : Int) (l : List Int) (s : BS) : Int := spec_l15Step_0 k n s.1 s.2.1 s.2.2 l

/-! ### The two loops -/

end Go.SX
