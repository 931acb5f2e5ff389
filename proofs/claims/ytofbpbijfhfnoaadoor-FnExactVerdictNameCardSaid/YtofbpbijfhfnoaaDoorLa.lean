/- The program's VerdictName answers as the reference's: in plain words. -/
import Derived.Test.YtofbpbijfhfnoaaDoorRa
namespace Go.SX
open Go.Proofs
set_option maxRecDepth 100000

theorem names_eq : spec_l34Names_0 = tab0 := rfl

theorem law_VerdictName (v : Int) : laws_FnExactVerdictName_0 v = true ∧ laws_FnExactVerdictName_1 v = true := by
  have hl : tab0.length = 8 := rfl
  have e : spec_VerdictName_0 v = impl_VerdictName_0 v := by
    simp only [spec_VerdictName_a0, spec_VerdictName_0, spec_VerdictName_1, impl_VerdictName_a0, impl_VerdictName_0, impl_VerdictName_1, names_eq, spec_l01In_0, impl_within_0]
  have e1 : spec_VerdictName_1 v = true := by
    simp only [spec_VerdictName_a0, spec_VerdictName_0, spec_VerdictName_1, names_eq, hl, spec_l01In_0, allT]
    cases h1 : leI 0 v with
    | false => simp
    | true =>
      cases h2 : leI v 7 with
      | false => simp
      | true =>
        have := leI_iff.1 h1
        have := leI_iff.1 h2
        simp; omega
  have e2 : impl_VerdictName_1 v = true := by
    simp only [impl_VerdictName_a0, impl_VerdictName_0, impl_VerdictName_1, hl, impl_within_0, allT]
    cases h1 : leI 0 v with
    | false => simp
    | true =>
      cases h2 : leI v 7 with
      | false => simp
      | true =>
        have := leI_iff.1 h1
        have := leI_iff.1 h2
        simp; omega
  simp only [laws_FnExactVerdictName_0, laws_FnExactVerdictName_1, e, e1, e2, allT, cond_true]
  simp

end Go.SX
