/- Allowed moves keep a traffic safe, others do not, and with fewer trains than blocks some move is allowed: in plain words. -/
import Derived.Test.YtjncnnpdaeociaaRv
import Derived.Test.YtjncnnpdaeociaaLg
namespace Go.SX
open Go.Proofs
set_option maxRecDepth 100000

theorem src_of {c : List Int} (hb : ∀ (i : Nat) (x : Int), c[i]? = some x → 0 ≤ x ∧ x ≤ 255) (h : laws_big_0 c = false) : srcOk 0 0 c = true := by
  have := ltI_not.1 h
  refine src_iff.2 ⟨by omega, by omega, by omega, fun x hx => ?_⟩
  obtain ⟨i, hi⟩ := List.getElem?_of_mem hx
  exact hb i x hi

end Go.SX
