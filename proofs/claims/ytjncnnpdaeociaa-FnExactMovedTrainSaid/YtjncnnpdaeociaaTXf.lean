/- A symbolic evaluator over the model's own operations, part 14: loops over lists, in plain words. -/
import Derived.Test.YtjncnnpdaeociaaTXe
namespace Go.SX
open Go.RowKit

variable {X A B : Type}

/-- A round's end: an end by its number, or the next round's beginning. -/
def LT.out : LT X → Option (Nat ⊕ X)
  | .nrm x _ => some (.inr x)
  | .ext j _ => some (.inl j)
  | .need nd t => bif allT nd then t.out else none
  | .ite b t e => bif b then t.out else e.out

theorem LT.go_out {Z : Type} {k : X → Option Z} {e : Nat → Option Z} : ∀ {t : LT X} {r : Nat ⊕ X}, t.out = some r → t.go k e = match r with | .inl j => e j | .inr y => k y
  | .nrm x _, r, h => by simp only [LT.out, Option.some.injEq] at h; subst h; rfl
  | .ext j _, r, h => by simp only [LT.out, Option.some.injEq] at h; subst h; rfl
  | .need nd t, r, h => by
    simp only [LT.out] at h
    simp only [LT.go]
    cases hn : allT nd with
    | true => rw [hn, cond_true] at h; rw [cond_true]; exact LT.go_out h
    | false => rw [hn] at h; cases h
  | .ite b t u, r, h => by
    simp only [LT.out] at h
    simp only [LT.go]
    cases b with
    | true => rw [cond_true] at h ⊢; exact LT.go_out h
    | false => rw [cond_false] at h ⊢; exact LT.go_out h

theorem runL_end {lt : X → LT X} {x : X} {j : Nat} (n : Nat) (h : (lt x).out = some (.inl j)) : runL lt (n + 1) x = some (j, x) := by
  rw [runL, LT.go_out h]

theorem runL_next {lt : X → LT X} {x y : X} (n : Nat) (h : (lt x).out = some (.inr y)) : runL lt (n + 1) x = runL lt n y := by
  rw [runL, LT.go_out h]

/-- A walk along a list: the end's number, how far it came, and with what. -/
def walkL (f : B → A → Nat ⊕ A) (e : Nat) : List B → Nat → A → Nat × Nat × A
  | [], i, a => (e, i, a)
  | b :: r, i, a => match f b a with
    | .inl j => (j, i, a)
    | .inr a' => walkL f e r (i + 1) a'

theorem drop_get {xs : List B} {i : Nat} {b : B} {r : List B} (h : xs.drop i = b :: r) : xs[i]? = some b ∧ xs.drop (i + 1) = r := by
  refine ⟨?_, ?_⟩
  · have := congrArg (fun l => l[0]?) h
    simpa using this
  · rw [← List.tail_drop, h]; rfl

theorem runL_walk {lt : X → LT X} (st : Nat → A → X) (f : B → A → Nat ⊕ A) (e : Nat) (Inv : Nat → A → Prop) (xs : List B)
    (hs : ∀ i b a, xs[i]? = some b → Inv i a → (lt (st i a)).out = some (match f b a with | .inl j => .inl j | .inr a' => .inr (st (i + 1) a')) ∧ ∀ a', f b a = .inr a' → Inv (i + 1) a')
    (he : ∀ a, Inv xs.length a → (lt (st xs.length a)).out = some (.inl e)) :
    ∀ (l : List B) (i : Nat) (a : A), xs.drop i = l → i + l.length = xs.length → Inv i a → runL lt (l.length + 1) (st i a) = some ((walkL f e l i a).1, st (walkL f e l i a).2.1 (walkL f e l i a).2.2)
  | [], i, a, _, hn, hI => by
    have : i = xs.length := by simpa using hn
    subst this
    exact runL_end _ (he a hI)
  | b :: r, i, a, hd, hn, hI => by
    obtain ⟨h1, h2⟩ := drop_get hd
    obtain ⟨h3, h4⟩ := hs i b a h1 hI
    simp only [walkL]
    cases hf : f b a with
    | inl j => rw [hf] at h3; exact runL_end _ h3
    | inr a' =>
      rw [hf] at h3
      rw [List.length_cons, runL_next _ h3]
      exact runL_walk st f e Inv xs hs he r (i + 1) a' h2 (by simp only [List.length_cons] at hn; omega) (h4 a' hf)

theorem Lp.walk (p : Lp X) (st : Nat → A → X) (f : B → A → Nat ⊕ A) (e : Nat) (Inv : Nat → A → Prop) (xs : List B)
    (hs : ∀ i b a, xs[i]? = some b → Inv i a → (p.lt (st i a)).out = some (match f b a with | .inl j => .inl j | .inr a' => .inr (st (i + 1) a')) ∧ ∀ a', f b a = .inr a' → Inv (i + 1) a')
    (he : ∀ a, Inv xs.length a → (p.lt (st xs.length a)).out = some (.inl e)) (a : A) (h0 : Inv 0 a) (hf : xs.length ≤ p.fuel (st 0 a)) :
    p.fin (st 0 a) = true ∧ p.res (st 0 a) = ((walkL f e xs 0 a).1, st (walkL f e xs 0 a).2.1 (walkL f e xs 0 a).2.2) :=
  p.run (runL_walk st f e Inv xs hs he xs 0 a rfl (by omega) h0) (le_big (by omega))

theorem wrap_i64 {x : Int} (h0 : -9223372036854775808 ≤ x) (h1 : x ≤ 9223372036854775807) : IntKind.i64.wrap x = x := by
  have hb : IntKind.i64.bits = 64 := rfl
  have hs : IntKind.i64.signed = true := rfl
  simp only [IntKind.wrap, hb, hs, Bool.true_and, decide_eq_true_eq]
  split <;> omega

theorem wrap64 {i n : Nat} (h : i < n) (hn : n ≤ 9223372036854775807) : IntKind.i64.wrap ((i : Int) + 1) = ((i + 1 : Nat) : Int) := by
  rw [wrap_i64 (by omega) (by omega)]; omega

/-! ### A list written cell after cell -/

def fSet {C : Type} (g : B → C) (b : B) (a : Nat × List C) : Nat ⊕ (Nat × List C) := .inr (a.1 + 1, a.2.set a.1 (g b))

theorem walk_set {C : Type} (g : B → C) (e : Nat) : ∀ (r : List B) (pre suf : List C) (i : Nat), suf.length = r.length →
    walkL (fSet g) e r i (pre.length, pre ++ suf) = (e, i + r.length, (pre.length + r.length, pre ++ r.map g))
  | [], pre, suf, i, h => by
    have : suf = [] := List.length_eq_zero_iff.1 h
    subst this
    simp [walkL]
  | b :: r, pre, [], i, h => by cases h
  | b :: r, pre, s :: suf, i, h => by
    simp only [List.length_cons, Nat.add_right_cancel_iff] at h
    simp only [walkL, fSet]
    have h1 : (pre ++ s :: suf).set pre.length (g b) = (pre ++ [g b]) ++ suf := by simp
    have h2 : pre.length + 1 = (pre ++ [g b]).length := by simp
    rw [h1, h2, walk_set g e r (pre ++ [g b]) suf (i + 1) h]
    simp
    omega

theorem walk_set0 {C : Type} (g : B → C) (e : Nat) (xs : List B) (l : List C) (h : l.length = xs.length) : walkL (fSet g) e xs 0 (0, l) = (e, xs.length, (xs.length, xs.map g)) := by
  have := walk_set g e xs [] l 0 h
  simpa using this

/-- A walk that finds nothing. -/
theorem walk_all {f : B → A → Nat ⊕ A} {e : Nat} {a : A} : ∀ {r : List B} {i : Nat}, (∀ b ∈ r, f b a = .inr a) → walkL f e r i a = (e, i + r.length, a)
  | [], i, _ => by simp [walkL]
  | b :: r, i, h => by
    simp only [walkL, h b (by simp)]
    rw [walk_all (r := r) fun c hc => h c (by simp [hc])]
    simp; omega

end Go.SX
