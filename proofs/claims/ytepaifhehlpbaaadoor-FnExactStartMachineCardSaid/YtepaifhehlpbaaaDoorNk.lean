/- Draws of blocks, in plain words. -/
import Derived.Test.YtepaifhehlpbaaaDoorRj
namespace Go.SX
open Go.Proofs
set_option maxRecDepth 100000

/-- A loop of few rounds, by what stays true. -/
theorem Lp.inv {X : Type} (p : Lp X) (I : Nat → X → Prop) (Q : Nat → X → Prop)
    (hs : ∀ k x, I (k + 1) x → (∃ j, (p.lt x).out = some (.inl j) ∧ Q j x) ∨ ∃ y, (p.lt x).out = some (.inr y) ∧ I k y)
    (he : ∀ x, I 0 x → ∃ j, (p.lt x).out = some (.inl j) ∧ Q j x) (N : Nat) (x : X) (hN : N ≤ 999) (h : I N x) :
    p.fin x = true ∧ ∃ j y, p.res x = (j, y) ∧ Q j y := by
  have key : ∀ (k : Nat) (x : X), I k x → ∃ j y, runL p.lt (k + 1) x = some (j, y) ∧ Q j y := by
    intro k
    induction k with
    | zero =>
      intro x h
      obtain ⟨j, h1, h2⟩ := he x h
      exact ⟨j, x, runL_end _ h1, h2⟩
    | succ k ih =>
      intro x h
      rcases hs k x h with ⟨j, h1, h2⟩ | ⟨y, h1, h2⟩
      · exact ⟨j, x, runL_end _ h1, h2⟩
      · obtain ⟨j, z, h3, h4⟩ := ih y h2
        exact ⟨j, z, by rw [runL_next _ h1]; exact h3, h4⟩
  obtain ⟨j, y, h1, h2⟩ := key N x h
  obtain ⟨r1, r2⟩ := p.run h1 (le_big (by omega))
  exact ⟨r1, j, y, r2, h2⟩

end Go.SX
