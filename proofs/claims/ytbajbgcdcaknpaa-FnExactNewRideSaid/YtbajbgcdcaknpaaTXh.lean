/- A symbolic evaluator over the model's own operations (program-independent). -/
import Derived.Test.YtbajbgcdcaknpaaTXB
set_option linter.unusedSimpArgs false
set_option linter.unusedVariables false
/- A symbolic evaluator over the model's own operations, part 13v: what stands from an element on in a slice, handed to a function. -/
namespace Go.SX
open Go.RowKit
section
variable {B : Base} {ρ ρ' : Nm} {w : World} {j : Nat}
end
end Go.SX
/- A symbolic evaluator over the model's own operations, part 15: a function's answer, said in other words. -/
namespace Go.SX
open Go.RowKit
/-- The same function, its answer said in other words. -/
def PF.alt {P : Program} (p : PF P) (F : List SV → List Entry → Option Out)
    (h : ∀ args es o, F args es = some o → (∀ b ∈ o.nd, b = true) → ∃ o', p.F args es = some o' ∧ (∀ b ∈ o'.nd, b = true) ∧ o'.res = o.res ∧ o'.es = o.es ∧ o'.new = o.new) : PF P where
  k := p.k
  F := F
  ok := by
    intro args es o ho hnd mem ρ w hp
    obtain ⟨o', h1, h2, h3, h4, h5⟩ := h args es o ho hnd
    rw [← h3, ← h4, ← h5]
    exact p.ok args es o' h1 h2 mem ρ w hp
  keep := p.keep
  hk := by
    intro args es o ho hnd
    obtain ⟨o', h1, h2, _, h4, _⟩ := h args es o ho hnd
    rw [← h4]
    exact p.hk args es o' h1 h2
theorem nd_one {b : Bool} (h : b = true) : ∀ c ∈ [b], c = true := fun c hc => by rw [List.mem_singleton] at hc; rw [hc]; exact h
theorem nd_fst {b : Bool} {l : List Bool} (h : ∀ c ∈ b :: l, c = true) : b = true := h b (by simp)
theorem altok {P : Program} {p : PF P} {args : List SV} {es : List Entry} {o o' : Out} (h1 : p.F args es = some o') (h2 : ∀ b ∈ o'.nd, b = true) (h3 : o'.res = o.res) (h4 : o'.es = o.es) (h5 : o'.new = o.new) :
    ∃ o', p.F args es = some o' ∧ (∀ b ∈ o'.nd, b = true) ∧ o'.res = o.res ∧ o'.es = o.es ∧ o'.new = o.new := ⟨o', h1, h2, h3, h4, h5⟩
/-! ### Walks of common kinds -/
variable {A B : Type}
end Go.SX
/- A symbolic evaluator over the model's own operations, part 16: a loop's rounds as a plain function of what they gather. -/
namespace Go.SX
open Go.RowKit
/-! ### Tests as plain functions -/
def leI (a b : Int) : Bool := decide (a ≤ b)
def ltI (a b : Int) : Bool := decide (a < b)
def eqI (a b : Int) : Bool := decide (a = b)
def neI (a b : Int) : Bool := decide (a ≠ b)
def leN (a b : Nat) : Bool := decide (a ≤ b)
def ltN (a b : Nat) : Bool := decide (a < b)
@[simp] theorem leI_iff {a b : Int} : leI a b = true ↔ a ≤ b := by simp [leI]
@[simp] theorem ltI_iff {a b : Int} : ltI a b = true ↔ a < b := by simp [ltI]
@[simp] theorem eqI_iff {a b : Int} : eqI a b = true ↔ a = b := by simp [eqI]
@[simp] theorem neI_iff {a b : Int} : neI a b = true ↔ a ≠ b := by simp [neI]
@[simp] theorem neI_not {a b : Int} : neI a b = false ↔ a = b := by simp [neI]
@[simp] theorem leN_iff {a b : Nat} : leN a b = true ↔ a ≤ b := by simp [leN]
@[simp] theorem ltN_iff {a b : Nat} : ltN a b = true ↔ a < b := by simp [ltN]
@[simp] theorem leI_not {a b : Int} : leI a b = false ↔ b < a := by simp [leI]
@[simp] theorem ltI_not {a b : Int} : ltI a b = false ↔ b ≤ a := by simp [ltI]
@[simp] theorem eqI_not {a b : Int} : eqI a b = false ↔ a ≠ b := by simp [eqI]
@[simp] theorem leN_not {a b : Nat} : leN a b = false ↔ b < a := by simp [leN]
@[simp] theorem ltN_not {a b : Nat} : ltN a b = false ↔ b ≤ a := by simp [ltN]
@[simp] theorem ltI_self (a : Int) : ltI a a = false := ltI_not.2 (Int.le_refl _)
@[simp] theorem leI_self (a : Int) : leI a a = true := leI_iff.2 (Int.le_refl _)
@[simp] theorem ltN_self (a : Nat) : ltN a a = false := ltN_not.2 (Nat.le_refl _)
@[simp] theorem leN_self (a : Nat) : leN a a = true := leN_iff.2 (Nat.le_refl _)
@[simp] theorem ltI_toNat (a : Int) : ltI (a.toNat : Int) a = false := ltI_not.2 (by omega)
@[simp] theorem ltI_down (a : Int) : ltI 0 (a - (a.toNat : Int)) = false := ltI_not.2 (by omega)
def ifLe {α : Type} (a b : Int) (x y : α) : α := if a ≤ b then x else y
def ifLt {α : Type} (a b : Int) (x y : α) : α := if a < b then x else y
def ifEq {α : Type} (a b : Int) (x y : α) : α := if a = b then x else y
@[simp] theorem ifLe_eq {α : Type} {a b : Int} {x y : α} : ifLe a b x y = bif leI a b then x else y := by unfold ifLe leI; by_cases h : a ≤ b <;> simp [h]
@[simp] theorem ifLt_eq {α : Type} {a b : Int} {x y : α} : ifLt a b x y = bif ltI a b then x else y := by unfold ifLt ltI; by_cases h : a < b <;> simp [h]
@[simp] theorem ifEq_eq {α : Type} {a b : Int} {x y : α} : ifEq a b x y = bif eqI a b then x else y := by unfold ifEq eqI; by_cases h : a = b <;> simp [h]
theorem leI_t {a b : Int} (h : a ≤ b) : leI a b = true := leI_iff.2 h
theorem ltI_t {a b : Int} (h : a < b) : ltI a b = true := ltI_iff.2 h
theorem leN_t {a b : Nat} (h : a ≤ b) : leN a b = true := leN_iff.2 h
theorem ltN_t {a b : Nat} (h : a < b) : ltN a b = true := ltN_iff.2 h
theorem ltI_f {a b : Int} (h : b ≤ a) : ltI a b = false := ltI_not.2 h
variable {X A B : Type}
/-- What must hold on the way that is taken. -/
def LT.nds : LT X → Bool
  | .nrm _ _ => true
  | .ext _ _ => true
  | .need nd t => bif allT nd then t.nds else false
  | .ite b t e => bif b then t.nds else e.nds
/-- The end's number, or what is gathered. -/
def LT.fn (pr : X → A) : LT X → Nat ⊕ A
  | .nrm x _ => .inr (pr x)
  | .ext j _ => .inl j
  | .need _ t => t.fn pr
  | .ite b t e => bif b then t.fn pr else e.fn pr
theorem LT.out_of {st1 : A → X} {pr : X → A} : ∀ {t : LT X}, t.nds = true → t.each (fun y => y = st1 (pr y)) → t.out = some (match t.fn pr with | .inl j => .inl j | .inr a => .inr (st1 a))
  | .nrm x _, _, h => by simp only [LT.out, LT.fn]; rw [← show x = st1 (pr x) from h]
  | .ext j _, _, _ => rfl
  | .need nd t, hn, h => by
    simp only [LT.nds] at hn
    simp only [LT.out, LT.fn]
    cases hd : allT nd with
    | true => rw [hd, cond_true] at hn; rw [cond_true]; exact LT.out_of (t := t) hn h
    | false => rw [hd] at hn; cases hn
  | .ite b t e, hn, h => by
    simp only [LT.nds] at hn
    simp only [LT.out, LT.fn]
    cases b with
    | true => exact LT.out_of (t := t) hn h.1
    | false => exact LT.out_of (t := e) hn h.2
/-- A loop along a list. -/
theorem Lp.along (p : Lp X) (st : Nat → A → X) (pr : X → A) (f : B → A → Nat ⊕ A) (e : Nat) (Inv : Nat → A → Prop) (xs : List B) (a : A)
    (h0 : Inv 0 a) (hf : xs.length ≤ p.fuel (st 0 a))
    (hs : ∀ i b a, xs[i]? = some b → Inv i a → (p.lt (st i a)).nds = true ∧ (p.lt (st i a)).each (fun y => y = st (i + 1) (pr y)) ∧ (p.lt (st i a)).fn pr = f b a ∧ ∀ a', f b a = .inr a' → Inv (i + 1) a')
    (he : ∀ a, Inv xs.length a → (p.lt (st xs.length a)).out = some (.inl e)) :
    p.fin (st 0 a) = true ∧ p.res (st 0 a) = ((walkL f e xs 0 a).1, st (walkL f e xs 0 a).2.1 (walkL f e xs 0 a).2.2) := by
  refine p.walk st f e Inv xs (fun i b a hb hI => ?_) he a h0 hf
  obtain ⟨h1, h2, h3, h4⟩ := hs i b a hb hI
  refine ⟨?_, h4⟩
  rw [LT.out_of h1 h2, h3]
  cases f b a <;> rfl
theorem range_get {n i b : Nat} (h : (List.range n)[i]? = some b) : b = i ∧ i < n := by
  obtain ⟨h1, h2⟩ := List.getElem?_eq_some_iff.1 h
  simp at h1 h2
  exact ⟨h2.symm, h1⟩
/-- A walk that a test stops. -/
theorem walk_stop {f : B → A → Nat ⊕ A} {P : B → Bool} {e j : Nat} {a : A} (hf : ∀ b, f b a = bif P b then .inl j else .inr a) : ∀ {r : List B} {i : Nat},
    walkL f e r i a = (bif r.any P then j else e, i + (r.takeWhile fun b => !P b).length, a)
  | [], i => by simp [walkL]
  | b :: r, i => by
    simp only [walkL, List.any_cons, List.takeWhile_cons, hf]
    cases hb : P b with
    | false =>
      simp only [cond_false]
      rw [walk_stop hf (r := r)]
      simp; omega
    | true => simp
/-- A walk that gathers. -/
theorem walk_gather {f : B → A → Nat ⊕ A} {g : A → B → A} {e : Nat} (hf : ∀ b a, f b a = .inr (g a b)) : ∀ {r : List B} {i : Nat} {a : A}, walkL f e r i a = (e, i + r.length, r.foldl g a)
  | [], i, a => by simp [walkL]
  | b :: r, i, a => by
    simp only [walkL, List.foldl_cons, hf]
    rw [walk_gather hf (r := r)]
    simp; omega
/-! ### Lists written and compared place by place -/
theorem any_ne {C : Type} [DecidableEq C] {xs ys : List C} {d : C} (h : ys.length = xs.length) {P : Nat → Bool} (hP : ∀ b, P b = !decide (xs[b]?.getD d = ys[b]?.getD d)) : (List.range xs.length).any P = !decide (xs = ys) := by
  by_cases he : xs = ys
  · subst he
    simp [hP]
  · have hd : decide (xs = ys) = false := decide_eq_false he
    rw [hd]
    cases ha : (List.range xs.length).any P with
    | true => rfl
    | false =>
      exfalso
      apply he
      rw [List.any_eq_false] at ha
      refine List.ext_getElem (by omega) fun i h1 h2 => ?_
      have hx := ha i (List.mem_range.2 h1)
      rw [hP i] at hx
      simp only [Bool.not_eq_true', decide_eq_false_iff_not, Decidable.not_not, List.getElem?_eq_getElem h1, List.getElem?_eq_getElem h2, Option.getD_some] at hx
      exact hx
/-- Numbers that go up by one. -/
def upFrom (k : Int) (n : Nat) : List Int := (List.range n).map fun (i : Nat) => k + (i : Int)
theorem upFrom_length (k : Int) (n : Nat) : (upFrom k n).length = n := by simp [upFrom]
theorem upFrom_succ (k : Int) (n : Nat) : upFrom k (n + 1) = k :: upFrom (k + 1) n := by
  unfold upFrom
  rw [List.range_succ_eq_map, List.map_cons, List.map_map]
  congr 1
  · simp
  · refine List.map_congr_left fun i _ => ?_
    simp only [Function.comp]; omega
/-- A list is numbered through. -/
theorem walk_mark {f : Nat → Int × List Int → Nat ⊕ (Int × List Int)} {e : Nat} (hf : ∀ b k xs, f b (k, xs) = .inr (IntKind.i64.wrap (k + 1), xs.set b k)) {xs : List Int} {k : Int} (h0 : 0 ≤ k) (h1 : k + xs.length ≤ 9223372036854775807) :
    walkL f e (List.range xs.length) 0 (k, xs) = (e, xs.length, (k + xs.length, upFrom k xs.length)) := by
  rw [walk_gather (g := fun a b => (IntKind.i64.wrap (a.1 + 1), a.2.set b a.1)) (fun b a => hf b a.1 a.2)]
  have key : ∀ (n : Nat), n ≤ xs.length → (List.range n).foldl (fun (a : Int × List Int) b => (IntKind.i64.wrap (a.1 + 1), a.2.set b a.1)) (k, xs) = (k + n, upFrom k n ++ xs.drop n) := by
    intro n
    induction n with
    | zero => intro _; simp [upFrom]
    | succ n ih =>
      intro hn
      rw [List.range_succ, List.foldl_append, ih (by omega)]
      simp only [List.foldl_cons, List.foldl_nil, Prod.mk.injEq]
      refine ⟨by rw [wrap_i64 (by omega) (by omega)]; omega, ?_⟩
      have h2 : upFrom k (n + 1) = upFrom k n ++ [k + n] := by simp [upFrom, List.range_succ]
      have h3 : xs.drop n = xs[n]'(by omega) :: xs.drop (n + 1) := by rw [List.drop_eq_getElem_cons (by omega)]
      rw [h2, List.set_append_right _ _ (by simp [upFrom_length]), h3]
      simp only [upFrom_length, Nat.sub_self, List.set_cons_zero, List.append_assoc, List.singleton_append]
  rw [key xs.length (Nat.le_refl _)]
  simp
/-- .. and is found to be so. -/
theorem walk_held {f : Int → Int → Nat ⊕ Int} {e : Nat} (hf : ∀ b k, f b k = bif b != k then .inl 0 else .inr (IntKind.i64.wrap (k + 1))) : ∀ {n : Nat} {k : Int} {i : Nat}, 0 ≤ k → k + n ≤ 9223372036854775807 →
    walkL f e (upFrom k n) i k = (e, i + n, k + n)
  | 0, k, i, _, _ => by simp [upFrom, walkL]
  | n + 1, k, i, h0, h1 => by
    rw [upFrom_succ]
    simp only [walkL, hf, bne_self_eq_false, cond_false]
    rw [wrap_i64 (by omega) (by omega), walk_held hf (n := n) (by omega) (by omega)]
    simp; omega
end Go.SX
/- A function that gives an empty slice back for an empty one (slices.Clone): what it does at nil and at slices of no elements, joined. -/
namespace Go.SX
end Go.SX
