/- The program's StepBlock answers as the reference's: in plain words. -/
import Derived.Test.YtepaifhehlpbaaaDoorRg
import Derived.Test.YtepaifhehlpbaaaDoorTXi
namespace Go.SX
open Go.Proofs
set_option maxRecDepth 100000

theorem specCode_eq (k : Int) (s : ByteArray) (n a b c : Int) (l : List Int) : codeV k s n a b c [l] = 0 → blockB k s n = true ∧ possB k n a b c = true ∧ bitsB (takesK k) l = true := by
  intro h
  simp only [codeV, List.all_cons, List.all_nil, Bool.and_true] at h
  cases h1 : blockB k s n <;> cases h2 : possB k n a b c <;> cases h3 : bitsB (takesK k) l <;> simp [h1, h2, h3] at h ⊢

end Go.SX
