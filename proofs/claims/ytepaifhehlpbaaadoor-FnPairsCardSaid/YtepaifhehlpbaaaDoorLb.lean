/- The program's ScansUntil answers as the reference's: in plain words. -/
import Derived.Test.YtepaifhehlpbaaaDoorLa
namespace Go.SX
open Go.Proofs
set_option maxRecDepth 100000

/-- A block's state. -/
abbrev BS := Int × Int × Int

def nextB (k n : Int) (l : List Int) (s : BS) : BS := (spec_l15Step_1 k n s.1 s.2.1 s.2.2 l, spec_l15Step_2 k s.2.1 s.2.2 l, spec_l15Step_3 k n s.1 s.2.2 l)
def valB (k n : Int) (l : List Int) (s : BS) : Int := spec_l15Step_0 k n s.1 s.2.1 s.2.2 l

/-! ### The two loops -/

theorem nextB_eq {k n a b c : Int} {s : ByteArray} {l : List Int} (hB : blockB k s n = true) (hP : possB k n a b c = true) (hA : bitsB (takesK k) l = true) :
    (impl_step_1 k n a b c l, impl_step_2 k b c l, impl_step_3 k n a b c l) = nextB k n l (a, b, c) ∧ possB k n (nextB k n l (a, b, c)).1 (nextB k n l (a, b, c)).2.1 (nextB k n l (a, b, c)).2.2 = true := by
  obtain ⟨_, e1, e2, e3, _, _, e6⟩ := step_eq hB hP hA
  exact ⟨by rw [e1, e2, e3]; rfl, e6⟩

end Go.SX
