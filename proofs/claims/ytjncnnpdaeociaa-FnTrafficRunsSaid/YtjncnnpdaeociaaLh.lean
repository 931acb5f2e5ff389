/- Allowed moves keep a traffic safe, others do not, and with fewer trains than blocks some move is allowed: in plain words. -/
import Derived.Test.YtjncnnpdaeociaaRv
import Derived.Test.YtjncnnpdaeociaaLg
namespace Go.SX
open Go.Proofs
set_option maxRecDepth 100000

theorem implSafe_ok (n : Int) (ps : List Int) : impl_IsSafeTraffic_0 n ps = isSf n ps ∧ impl_IsSafeTraffic_1 n ps = true := by
  simp only [impl_IsSafeTraffic_0, impl_IsSafeTraffic_1, isSf, allT]
  cases isT n ps <;> simp

theorem hasI_iff {x : Int} {l : List Int} : hasI x l = true ↔ x ∈ l := by simp [hasI]

theorem src_of {c : List Int} (hb : ∀ (i : Nat) (x : Int), c[i]? = some x → 0 ≤ x ∧ x ≤ 255) (h : laws_big_0 c = false) : srcOk 0 0 c = true := by
  have := ltI_not.1 h
  refine src_iff.2 ⟨by omega, by omega, by omega, fun x hx => ?_⟩
  obtain ⟨i, hi⟩ := List.getElem?_of_mem hx
  exact hb i x hi

end Go.SX
