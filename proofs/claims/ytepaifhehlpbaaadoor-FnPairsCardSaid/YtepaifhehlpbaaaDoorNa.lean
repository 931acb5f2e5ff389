/- Traffic, in plain words: what small functions come to. -/
import Derived.Test.YtepaifhehlpbaaaDoorRa
namespace Go.SX
open Go.Proofs
set_option maxRecDepth 100000

def inR (a lo hi : Int) : Bool := leI lo a && leI a hi
theorem inR_iff {a lo hi : Int} : inR a lo hi = true ↔ lo ≤ a ∧ a ≤ hi := by simp [inR]

theorem inR_eq (a lo hi : Int) : (bif leI lo a then leI a hi else false) = inR a lo hi := by
  unfold inR; cases leI lo a <;> rfl

/-! ### Copies, comparisons, marks -/

/-! ### Valid traffics -/

/-! ### Uses -/

end Go.SX
