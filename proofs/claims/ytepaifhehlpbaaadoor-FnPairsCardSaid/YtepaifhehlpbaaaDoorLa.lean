/- The program's StepBlock answers as the reference's: in plain words. -/
import Derived.Test.YtepaifhehlpbaaaDoorRg
import Derived.Test.YtepaifhehlpbaaaDoorTXi
namespace Go.SX
open Go.Proofs
set_option maxRecDepth 100000

theorem specCode_eq (k : Int) (s : ByteArray) (n a b c : Int) (l : List Int) : codeV k s n a b c [l] = 0 → blockB k s n = true ∧ possB k n a b c = true ∧ bitsB (takesK k) l = true := by
  intro h
  simp only [codeV, List.all_cons, List.all_nil, Bool.and_true] at h
  cases h1 : blockB k s n <;> cases h2 : possB k n a b c <;> cases h3 : bitsB (takesK k) l <;> simp [h1, h2, h3] at h ⊢

/-- The program's StepBlock and the reference's. -/
theorem stepB_eq (k : Int) (s : ByteArray) (n a b c : Int) (l : List Int) :
    impl_StepBlock_0 k s n a b c l = spec_StepBlock_0 k s n a b c l ∧ impl_StepBlock_1 k s n a b c l = spec_StepBlock_1 k s n a b c l ∧ impl_StepBlock_2 k s n a b c l = spec_StepBlock_2 k s n a b c l ∧
    impl_StepBlock_3 k s n a b c l = spec_StepBlock_3 k s n a b c l ∧ impl_StepBlock_4 k s n a b c l = spec_StepBlock_4 k s n a b c l := by
  cases h : (codeV k s n a b c [l] != 0) with
  | true => simp [impl_StepBlock_a0, impl_StepBlock_a1, impl_StepBlock_0, impl_StepBlock_1, impl_StepBlock_2, impl_StepBlock_3, impl_StepBlock_4, impl_StepBlock_5, spec_StepBlock_a0, spec_StepBlock_a1, spec_StepBlock_0, spec_StepBlock_1, spec_StepBlock_2, spec_StepBlock_3, spec_StepBlock_4, spec_StepBlock_5, h]
  | false =>
    have h0 : codeV k s n a b c [l] = 0 := by simpa using h
    obtain ⟨h1, h2, h3⟩ := specCode_eq _ _ _ _ _ _ _ h0
    obtain ⟨e0, e1, e2, e3, _⟩ := step_eq h1 h2 h3
    simp [impl_StepBlock_a0, impl_StepBlock_a1, impl_StepBlock_0, impl_StepBlock_1, impl_StepBlock_2, impl_StepBlock_3, impl_StepBlock_4, impl_StepBlock_5, spec_StepBlock_a0, spec_StepBlock_a1, spec_StepBlock_0, spec_StepBlock_1, spec_StepBlock_2, spec_StepBlock_3, spec_StepBlock_4, spec_StepBlock_5, h, e0, e1, e2, e3]

theorem stepB_nd (k : Int) (s : ByteArray) (n a b c : Int) (l : List Int) (hs : s.size ≤ 9223372036854775807) (hl : l.length ≤ 9223372036854775807) :
    impl_StepBlock_5 k s n a b c l = true ∧ spec_StepBlock_5 k s n a b c l = true := by
  have l1 : leN s.size 9223372036854775807 = true := leN_t hs
  have l2 : leN l.length 9223372036854775807 = true := leN_t hl
  have l3 : ssOk 9223372036854775807 [l] = true := ss_iff.2 ⟨by simp, by simpa using hl⟩
  cases h : (codeV k s n a b c [l] != 0) with
  | true => simp [impl_StepBlock_a0, impl_StepBlock_a1, impl_StepBlock_0, impl_StepBlock_1, impl_StepBlock_2, impl_StepBlock_3, impl_StepBlock_4, impl_StepBlock_5, spec_StepBlock_a0, spec_StepBlock_a1, spec_StepBlock_0, spec_StepBlock_1, spec_StepBlock_2, spec_StepBlock_3, spec_StepBlock_4, spec_StepBlock_5, h, allT, l1, l2, l3]
  | false =>
    have h0 : codeV k s n a b c [l] = 0 := by simpa using h
    obtain ⟨h1, h2, h3⟩ := specCode_eq _ _ _ _ _ _ _ h0
    obtain ⟨_, _, _, _, e4, e5, _⟩ := step_eq h1 h2 h3
    simp [impl_StepBlock_a0, impl_StepBlock_a1, impl_StepBlock_0, impl_StepBlock_1, impl_StepBlock_2, impl_StepBlock_3, impl_StepBlock_4, impl_StepBlock_5, spec_StepBlock_a0, spec_StepBlock_a1, spec_StepBlock_0, spec_StepBlock_1, spec_StepBlock_2, spec_StepBlock_3, spec_StepBlock_4, spec_StepBlock_5, h, allT, l1, l2, l3, e4, e5]

end Go.SX
