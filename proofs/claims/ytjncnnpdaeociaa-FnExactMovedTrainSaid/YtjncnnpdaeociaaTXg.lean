/- A symbolic evaluator over the model's own operations, part 15: a function's answer, said in other words. -/
import Derived.Test.YtjncnnpdaeociaaTXf
namespace Go.SX
open Go.RowKit

/-- The same function, its answer said in other words. -/
def PF.alt {P : Program} (p : PF P) (F : List SV → List Entry → Option Out)
    (h : ∀ args es o, F args es = some o → (∀ b ∈ o.nd, b = true) → ∃ o', p.F args es = some o' ∧ (∀ b ∈ o'.nd, b = true) ∧ o'.res = o.res ∧ o'.es = o.es ∧ o'.new = o.new) : PF P where
  k := p.k
  F := F
  ok := by
    intro args es o ho hnd mem ρ w hp
    obtain ⟨o', h1, h2, h3, h4, h5⟩ := h args es o ho hnd
    rw [← h3, ← h4, ← h5]
    exact p.ok args es o' h1 h2 mem ρ w hp

theorem nd_nil {b : Bool} : ∀ c ∈ ([] : List Bool), c = true := fun _ h => by cases h
theorem nd_one {b : Bool} (h : b = true) : ∀ c ∈ [b], c = true := fun c hc => by rw [List.mem_singleton] at hc; rw [hc]; exact h
theorem nd_fst {b : Bool} {l : List Bool} (h : ∀ c ∈ b :: l, c = true) : b = true := h b (by simp)

theorem altok {P : Program} {p : PF P} {args : List SV} {es : List Entry} {o o' : Out} (h1 : p.F args es = some o') (h2 : ∀ b ∈ o'.nd, b = true) (h3 : o'.res = o.res) (h4 : o'.es = o.es) (h5 : o'.new = o.new) :
    ∃ o', p.F args es = some o' ∧ (∀ b ∈ o'.nd, b = true) ∧ o'.res = o.res ∧ o'.es = o.es ∧ o'.new = o.new := ⟨o', h1, h2, h3, h4, h5⟩

/-! ### Walks of common kinds -/

variable {A B : Type}

/-- A walk that goes on as long as a test holds. -/
theorem walk_test {P : B → Bool} {e j : Nat} {a : A} : ∀ {r : List B} {i : Nat}, walkL (fun b a => bif P b then .inr a else .inl j) e r i a = (bif r.all P then e else j, i + (r.takeWhile P).length, a)
  | [], i => by simp [walkL]
  | b :: r, i => by
    simp only [walkL, List.all_cons, List.takeWhile_cons]
    cases hb : P b with
    | true =>
      simp only [cond_true]
      rw [walk_test (r := r)]
      simp; omega
    | false => simp

/-- A walk that gathers. -/
theorem walk_fold {g : A → B → A} {e : Nat} : ∀ {r : List B} {i : Nat} {a : A}, walkL (fun b a => .inr (g a b)) e r i a = (e, i + r.length, r.foldl g a)
  | [], i, a => by simp [walkL]
  | b :: r, i, a => by
    simp only [walkL, List.foldl_cons]
    rw [walk_fold (r := r)]
    simp; omega

theorem walk_congr {f g : B → A → Nat ⊕ A} {e : Nat} : ∀ {r : List B} {i : Nat} {a : A}, (∀ b ∈ r, ∀ a, f b a = g b a) → walkL f e r i a = walkL g e r i a
  | [], i, a, _ => rfl
  | b :: r, i, a, h => by
    simp only [walkL, h b (by simp)]
    cases g b a with
    | inl j => rfl
    | inr a' => exact walk_congr fun b' hb' a => h b' (by simp [hb']) a

end Go.SX
