/- Running events in two parts is running them at once, in plain words. -/
import Derived.Test.YtofbpbijfhfnoaaRc
import Derived.Test.YtofbpbijfhfnoaaKa
namespace Go.SX
open Go.Proofs
set_option maxRecDepth 100000

def runs : List Ev → Pr → Option Pr
  | [], p => some p
  | e :: r, p => bif sOk p e then runs r (sStep p e) else none

theorem runs_append : ∀ (xs ys : List Ev) (p : Pr), runs (xs ++ ys) p = (runs xs p).bind (runs ys)
  | [], ys, p => rfl
  | e :: r, ys, p => by
    simp only [List.cons_append, runs]
    cases sOk p e with
    | true => simpa using runs_append r ys (sStep p e)
    | false => rfl

theorem walk_runs : ∀ (xs : List Ev) (i : Nat) (p : Pr) (m : Int), (runs xs p = none → (walkL fS 1 xs i (p, m)).1 = 0) ∧ ∀ q, runs xs p = some q → (walkL fS 1 xs i (p, m)).1 = 1 ∧ (walkL fS 1 xs i (p, m)).2.2.1 = q
  | [], i, p, m => ⟨fun h => (by cases h), fun q h => (by cases h; exact ⟨rfl, rfl⟩)⟩
  | e :: r, i, p, m => by
    simp only [runs, walkL, fS]
    cases sOk p e with
    | true => exact walk_runs r (i + 1) (sStep p e) _
    | false => exact ⟨fun _ => rfl, fun q h => (by cases h)⟩

theorem runs_isP : ∀ (xs : List Ev) (p q : Pr), xs.all isE = true → isP p = true → runs xs p = some q → isP q = true
  | [], p, q, _, hp, h => by cases h; exact hp
  | e :: r, p, q, he, hp, h => by
    simp only [List.all_cons, Bool.and_eq_true] at he
    simp only [runs] at h
    cases hs : sOk p e with
    | false => rw [hs] at h; cases h
    | true =>
      rw [hs] at h
      exact runs_isP r (sStep p e) q he.2 ((step_eq p e hp he.1).2 hs).2 h

theorem most_ge : ∀ (xs : List Ev) (i : Nat) (p : Pr) (m : Int), act p ≤ m → act (walkL fS 1 xs i (p, m)).2.2.1 ≤ (walkL fS 1 xs i (p, m)).2.2.2
  | [], _, _, _, h => h
  | e :: r, i, p, m, h => by
    simp only [walkL, fS]
    cases sOk p e with
    | false => exact h
    | true =>
      refine most_ge r (i + 1) (sStep p e) _ ?_
      unfold upMost
      split <;> omega

theorem run_zero (p : Pr) (xs : List Ev) (h : spec_RunPair_4 p.1.1 p.1.2 p.2.1 p.2.2 xs = 0) : xs.length ≤ 200 ∧ isP p = true ∧ xs.all isE = true ∧ ∃ q, runs xs p = some q := by
  obtain ⟨_, a2⟩ := spec_run p xs
  have h : spec_l31Run_5 p.1.1 p.1.2 p.2.1 p.2.2 xs = 0 := h
  by_cases hn : 200 < xs.length
  · rw [if_pos hn] at a2; rw [a2.2.2.2.2.2] at h; cases h
  · rw [if_neg hn] at a2
    by_cases hv : (isP p && xs.all isE) = false
    · rw [if_pos hv] at a2; rw [a2.2.2.2.2.2] at h; cases h
    · rw [if_neg hv] at a2
      simp only [Bool.not_eq_false, Bool.and_eq_true] at hv
      cases hr : runs xs p with
      | some q => exact ⟨by omega, hv.1, hv.2, q, rfl⟩
      | none =>
        rw [if_pos ((walk_runs xs 0 p (act p)).1 hr)] at a2
        rw [a2.2.2.2.2.2] at h; cases h

theorem run_of (p : Pr) (xs : List Ev) (q : Pr) (hn : xs.length ≤ 200) (hp : isP p = true) (he : xs.all isE = true) (hr : runs xs p = some q) :
    (impl_RunPair_4 p.1.1 p.1.2 p.2.1 p.2.2 xs = 0 ∧ impl_RunPair_0 p.1.1 p.1.2 p.2.1 p.2.2 xs = q.1.1 ∧ impl_RunPair_1 p.1.1 p.1.2 p.2.1 p.2.2 xs = q.1.2 ∧ impl_RunPair_2 p.1.1 p.1.2 p.2.1 p.2.2 xs = q.2.1 ∧ impl_RunPair_3 p.1.1 p.1.2 p.2.1 p.2.2 xs = q.2.2) ∧
      impl_GreatestActive_1 p.1.1 p.1.2 p.2.1 p.2.2 xs = 0 ∧ act q ≤ impl_GreatestActive_0 p.1.1 p.1.2 p.2.1 p.2.2 xs := by
  obtain ⟨⟨e0, e1, e2, e3, e4⟩, _⟩ := runPair_eq p.1.1 p.1.2 p.2.1 p.2.2 xs
  obtain ⟨g0, g1, _⟩ := greatest_eq p.1.1 p.1.2 p.2.1 p.2.2 xs
  obtain ⟨_, a2⟩ := spec_run p xs
  obtain ⟨w1, w2⟩ := (walk_runs xs 0 p (act p)).2 q hr
  rw [if_neg (by omega), if_neg (by rw [hp, he]; decide), if_neg (by rw [w1]; decide), w2] at a2
  obtain ⟨b0, b1, b2, b3, b4, b5⟩ := a2
  rw [e0, e1, e2, e3, e4, g0, g1]
  refine ⟨⟨b5, b0, b1, b2, b3⟩, b5, ?_⟩
  have hm := most_ge xs 0 p (act p) (Int.le_refl _)
  rw [w2] at hm
  rw [show spec_GreatestActive_0 p.1.1 p.1.2 p.2.1 p.2.2 xs = _ from b4]
  exact hm

def cpLaw (K a b c d : Int) (xs : List Ev) (s0 s1 s2 s3 s4 s5 : Int) (s6 s7 : Bool) : Bool :=
    bif bif bif bif bif bif impl_RunPair_4 a b c d xs != spec_RunPair_4 a b c d xs then true else !bif bif impl_RunPair_0 a b c d xs == spec_RunPair_0 a b
    c d xs then bif impl_RunPair_1 a b c d xs == spec_RunPair_1 a b c d xs then true else false else false then bif bif impl_RunPair_2 a b c d xs ==
    spec_RunPair_2 a b c d xs then bif impl_RunPair_3 a b c d xs == spec_RunPair_3 a b c d xs then true else false else false then true else false else
    false then true else impl_StepPair_4 s0 s1 s2 s3 s4 s5 s6 s7 != spec_StepPair_4 s0 s1 s2 s3 s4 s5 s6 s7 then true else !bif bif impl_StepPair_0 s0 s1
    s2 s3 s4 s5 s6 s7 == spec_StepPair_0 s0 s1 s2 s3 s4 s5 s6 s7 then bif impl_StepPair_1 s0 s1 s2 s3 s4 s5 s6 s7 == spec_StepPair_1 s0 s1 s2 s3 s4 s5 s6
    s7 then true else false else false then bif bif impl_StepPair_2 s0 s1 s2 s3 s4 s5 s6 s7 == spec_StepPair_2 s0 s1 s2 s3 s4 s5 s6 s7 then bif
    impl_StepPair_3 s0 s1 s2 s3 s4 s5 s6 s7 == spec_StepPair_3 s0 s1 s2 s3 s4 s5 s6 s7 then true else false else false then true else false else false then
    true else !impl_IsPair_0 a b c d == spec_IsPair_0 a b c d then true else !impl_IsPairEvent_0 s4 s5 s6 s7 == spec_IsPairEvent_0 s4 s5 s6 s7 then false
    else bif impl_RunPair_4 a b c d xs != (0 : Int) then true else bif bif bif bif bif bif impl_RunPair_4 a b c d (List.drop (Int.toNat (0 : Int))
    (List.take (Int.toNat K) xs)) == (0 : Int) then impl_RunPair_4 (impl_RunPair_0 a b c d (List.drop (Int.toNat (0 : Int)) (List.take (Int.toNat K) xs)))
    (impl_RunPair_1 a b c d (List.drop (Int.toNat (0 : Int)) (List.take (Int.toNat K) xs))) (impl_RunPair_2 a b c d (List.drop (Int.toNat (0 : Int))
    (List.take (Int.toNat K) xs))) (impl_RunPair_3 a b c d (List.drop (Int.toNat (0 : Int)) (List.take (Int.toNat K) xs))) (List.drop (Int.toNat K)
    (List.take (Int.toNat (↑(List.length xs) : Int)) xs)) == (0 : Int) else false then impl_ActiveCount_1 (impl_RunPair_0 a b c d xs) (impl_RunPair_1 a b c
    d xs) (impl_RunPair_2 a b c d xs) (impl_RunPair_3 a b c d xs) == (0 : Int) else false then impl_GreatestActive_1 a b c d xs == (0 : Int) else false
    then bif bif impl_RunPair_0 (impl_RunPair_0 a b c d (List.drop (Int.toNat (0 : Int)) (List.take (Int.toNat K) xs))) (impl_RunPair_1 a b c d (List.drop
    (Int.toNat (0 : Int)) (List.take (Int.toNat K) xs))) (impl_RunPair_2 a b c d (List.drop (Int.toNat (0 : Int)) (List.take (Int.toNat K) xs)))
    (impl_RunPair_3 a b c d (List.drop (Int.toNat (0 : Int)) (List.take (Int.toNat K) xs))) (List.drop (Int.toNat K) (List.take (Int.toNat (↑(List.length
    xs) : Int)) xs)) == impl_RunPair_0 a b c d xs then bif impl_RunPair_1 (impl_RunPair_0 a b c d (List.drop (Int.toNat (0 : Int)) (List.take (Int.toNat K)
    xs))) (impl_RunPair_1 a b c d (List.drop (Int.toNat (0 : Int)) (List.take (Int.toNat K) xs))) (impl_RunPair_2 a b c d (List.drop (Int.toNat (0 : Int))
    (List.take (Int.toNat K) xs))) (impl_RunPair_3 a b c d (List.drop (Int.toNat (0 : Int)) (List.take (Int.toNat K) xs))) (List.drop (Int.toNat K)
    (List.take (Int.toNat (↑(List.length xs) : Int)) xs)) == impl_RunPair_1 a b c d xs then true else false else false then bif bif impl_RunPair_2
    (impl_RunPair_0 a b c d (List.drop (Int.toNat (0 : Int)) (List.take (Int.toNat K) xs))) (impl_RunPair_1 a b c d (List.drop (Int.toNat (0 : Int))
    (List.take (Int.toNat K) xs))) (impl_RunPair_2 a b c d (List.drop (Int.toNat (0 : Int)) (List.take (Int.toNat K) xs))) (impl_RunPair_3 a b c d
    (List.drop (Int.toNat (0 : Int)) (List.take (Int.toNat K) xs))) (List.drop (Int.toNat K) (List.take (Int.toNat (↑(List.length xs) : Int)) xs)) ==
    impl_RunPair_2 a b c d xs then bif impl_RunPair_3 (impl_RunPair_0 a b c d (List.drop (Int.toNat (0 : Int)) (List.take (Int.toNat K) xs)))
    (impl_RunPair_1 a b c d (List.drop (Int.toNat (0 : Int)) (List.take (Int.toNat K) xs))) (impl_RunPair_2 a b c d (List.drop (Int.toNat (0 : Int))
    (List.take (Int.toNat K) xs))) (impl_RunPair_3 a b c d (List.drop (Int.toNat (0 : Int)) (List.take (Int.toNat K) xs))) (List.drop (Int.toNat K)
    (List.take (Int.toNat (↑(List.length xs) : Int)) xs)) == impl_RunPair_3 a b c d xs then true else false else false then true else false else false else
    false then impl_IsPair_0 (impl_RunPair_0 a b c d xs) (impl_RunPair_1 a b c d xs) (impl_RunPair_2 a b c d xs) (impl_RunPair_3 a b c d xs) else false
    then decide (impl_ActiveCount_0 (impl_RunPair_0 a b c d xs) (impl_RunPair_1 a b c d xs) (impl_RunPair_2 a b c d xs) (impl_RunPair_3 a b c d xs) ≤
    impl_GreatestActive_0 a b c d xs) else false

def cpNeed (g dr ds r1 b3 : Bool) (K a b c d : Int) (xs : List Ev) (s0 s1 s2 s3 s4 s5 : Int) (s6 s7 : Bool) : Bool :=
    allT [g || dr, g || impl_RunPair_5 a b c d xs, g || spec_RunPair_5 a b c d xs, g || ds, g || impl_StepPair_5 s0 s1 s2 s3 s4 s5 s6 s7, g ||
    spec_StepPair_5 s0 s1 s2 s3 s4 s5 s6 s7, g || ((bif bif bif bif bif impl_RunPair_4 a b c d xs != spec_RunPair_4 a b c d xs then true else !bif bif
    impl_RunPair_0 a b c d xs == spec_RunPair_0 a b c d xs then bif impl_RunPair_1 a b c d xs == spec_RunPair_1 a b c d xs then true else false else false
    then bif bif impl_RunPair_2 a b c d xs == spec_RunPair_2 a b c d xs then bif impl_RunPair_3 a b c d xs == spec_RunPair_3 a b c d xs then true else
    false else false then true else false else false then true else impl_StepPair_4 s0 s1 s2 s3 s4 s5 s6 s7 != spec_StepPair_4 s0 s1 s2 s3 s4 s5 s6 s7 then
    true else !bif bif impl_StepPair_0 s0 s1 s2 s3 s4 s5 s6 s7 == spec_StepPair_0 s0 s1 s2 s3 s4 s5 s6 s7 then bif impl_StepPair_1 s0 s1 s2 s3 s4 s5 s6 s7
    == spec_StepPair_1 s0 s1 s2 s3 s4 s5 s6 s7 then true else false else false then bif bif impl_StepPair_2 s0 s1 s2 s3 s4 s5 s6 s7 == spec_StepPair_2 s0
    s1 s2 s3 s4 s5 s6 s7 then bif impl_StepPair_3 s0 s1 s2 s3 s4 s5 s6 s7 == spec_StepPair_3 s0 s1 s2 s3 s4 s5 s6 s7 then true else false else false then
    true else false else false then true else !impl_IsPair_0 a b c d == spec_IsPair_0 a b c d then true else !impl_IsPairEvent_0 s4 s5 s6 s7 ==
    spec_IsPairEvent_0 s4 s5 s6 s7) || (impl_RunPair_4 a b c d xs != (0 : Int) || r1)), g || ((bif bif bif bif bif impl_RunPair_4 a b c d xs !=
    spec_RunPair_4 a b c d xs then true else !bif bif impl_RunPair_0 a b c d xs == spec_RunPair_0 a b c d xs then bif impl_RunPair_1 a b c d xs ==
    spec_RunPair_1 a b c d xs then true else false else false then bif bif impl_RunPair_2 a b c d xs == spec_RunPair_2 a b c d xs then bif impl_RunPair_3 a
    b c d xs == spec_RunPair_3 a b c d xs then true else false else false then true else false else false then true else impl_StepPair_4 s0 s1 s2 s3 s4 s5
    s6 s7 != spec_StepPair_4 s0 s1 s2 s3 s4 s5 s6 s7 then true else !bif bif impl_StepPair_0 s0 s1 s2 s3 s4 s5 s6 s7 == spec_StepPair_0 s0 s1 s2 s3 s4 s5
    s6 s7 then bif impl_StepPair_1 s0 s1 s2 s3 s4 s5 s6 s7 == spec_StepPair_1 s0 s1 s2 s3 s4 s5 s6 s7 then true else false else false then bif bif
    impl_StepPair_2 s0 s1 s2 s3 s4 s5 s6 s7 == spec_StepPair_2 s0 s1 s2 s3 s4 s5 s6 s7 then bif impl_StepPair_3 s0 s1 s2 s3 s4 s5 s6 s7 == spec_StepPair_3
    s0 s1 s2 s3 s4 s5 s6 s7 then true else false else false then true else false else false then true else !impl_IsPair_0 a b c d == spec_IsPair_0 a b c d
    then true else !impl_IsPairEvent_0 s4 s5 s6 s7 == spec_IsPairEvent_0 s4 s5 s6 s7) || (impl_RunPair_4 a b c d xs != (0 : Int) || b3)), g || ((bif bif
    bif bif bif impl_RunPair_4 a b c d xs != spec_RunPair_4 a b c d xs then true else !bif bif impl_RunPair_0 a b c d xs == spec_RunPair_0 a b c d xs then
    bif impl_RunPair_1 a b c d xs == spec_RunPair_1 a b c d xs then true else false else false then bif bif impl_RunPair_2 a b c d xs == spec_RunPair_2 a b
    c d xs then bif impl_RunPair_3 a b c d xs == spec_RunPair_3 a b c d xs then true else false else false then true else false else false then true else
    impl_StepPair_4 s0 s1 s2 s3 s4 s5 s6 s7 != spec_StepPair_4 s0 s1 s2 s3 s4 s5 s6 s7 then true else !bif bif impl_StepPair_0 s0 s1 s2 s3 s4 s5 s6 s7 ==
    spec_StepPair_0 s0 s1 s2 s3 s4 s5 s6 s7 then bif impl_StepPair_1 s0 s1 s2 s3 s4 s5 s6 s7 == spec_StepPair_1 s0 s1 s2 s3 s4 s5 s6 s7 then true else
    false else false then bif bif impl_StepPair_2 s0 s1 s2 s3 s4 s5 s6 s7 == spec_StepPair_2 s0 s1 s2 s3 s4 s5 s6 s7 then bif impl_StepPair_3 s0 s1 s2 s3
    s4 s5 s6 s7 == spec_StepPair_3 s0 s1 s2 s3 s4 s5 s6 s7 then true else false else false then true else false else false then true else !impl_IsPair_0 a
    b c d == spec_IsPair_0 a b c d then true else !impl_IsPairEvent_0 s4 s5 s6 s7 == spec_IsPairEvent_0 s4 s5 s6 s7) || (impl_RunPair_4 a b c d xs != (0 :
    Int) || decide ((0 : Int) ≤ (0 : Int)))), g || ((bif bif bif bif bif impl_RunPair_4 a b c d xs != spec_RunPair_4 a b c d xs then true else !bif bif
    impl_RunPair_0 a b c d xs == spec_RunPair_0 a b c d xs then bif impl_RunPair_1 a b c d xs == spec_RunPair_1 a b c d xs then true else false else false
    then bif bif impl_RunPair_2 a b c d xs == spec_RunPair_2 a b c d xs then bif impl_RunPair_3 a b c d xs == spec_RunPair_3 a b c d xs then true else
    false else false then true else false else false then true else impl_StepPair_4 s0 s1 s2 s3 s4 s5 s6 s7 != spec_StepPair_4 s0 s1 s2 s3 s4 s5 s6 s7 then
    true else !bif bif impl_StepPair_0 s0 s1 s2 s3 s4 s5 s6 s7 == spec_StepPair_0 s0 s1 s2 s3 s4 s5 s6 s7 then bif impl_StepPair_1 s0 s1 s2 s3 s4 s5 s6 s7
    == spec_StepPair_1 s0 s1 s2 s3 s4 s5 s6 s7 then true else false else false then bif bif impl_StepPair_2 s0 s1 s2 s3 s4 s5 s6 s7 == spec_StepPair_2 s0
    s1 s2 s3 s4 s5 s6 s7 then bif impl_StepPair_3 s0 s1 s2 s3 s4 s5 s6 s7 == spec_StepPair_3 s0 s1 s2 s3 s4 s5 s6 s7 then true else false else false then
    true else false else false then true else !impl_IsPair_0 a b c d == spec_IsPair_0 a b c d then true else !impl_IsPairEvent_0 s4 s5 s6 s7 ==
    spec_IsPairEvent_0 s4 s5 s6 s7) || (impl_RunPair_4 a b c d xs != (0 : Int) || decide ((0 : Int) ≤ K))), g || ((bif bif bif bif bif impl_RunPair_4 a b c
    d xs != spec_RunPair_4 a b c d xs then true else !bif bif impl_RunPair_0 a b c d xs == spec_RunPair_0 a b c d xs then bif impl_RunPair_1 a b c d xs ==
    spec_RunPair_1 a b c d xs then true else false else false then bif bif impl_RunPair_2 a b c d xs == spec_RunPair_2 a b c d xs then bif impl_RunPair_3 a
    b c d xs == spec_RunPair_3 a b c d xs then true else false else false then true else false else false then true else impl_StepPair_4 s0 s1 s2 s3 s4 s5
    s6 s7 != spec_StepPair_4 s0 s1 s2 s3 s4 s5 s6 s7 then true else !bif bif impl_StepPair_0 s0 s1 s2 s3 s4 s5 s6 s7 == spec_StepPair_0 s0 s1 s2 s3 s4 s5
    s6 s7 then bif impl_StepPair_1 s0 s1 s2 s3 s4 s5 s6 s7 == spec_StepPair_1 s0 s1 s2 s3 s4 s5 s6 s7 then true else false else false then bif bif
    impl_StepPair_2 s0 s1 s2 s3 s4 s5 s6 s7 == spec_StepPair_2 s0 s1 s2 s3 s4 s5 s6 s7 then bif impl_StepPair_3 s0 s1 s2 s3 s4 s5 s6 s7 == spec_StepPair_3
    s0 s1 s2 s3 s4 s5 s6 s7 then true else false else false then true else false else false then true else !impl_IsPair_0 a b c d == spec_IsPair_0 a b c d
    then true else !impl_IsPairEvent_0 s4 s5 s6 s7 == spec_IsPairEvent_0 s4 s5 s6 s7) || (impl_RunPair_4 a b c d xs != (0 : Int) || decide (K ≤
    (↑(List.length xs) : Int)))), g || ((bif bif bif bif bif impl_RunPair_4 a b c d xs != spec_RunPair_4 a b c d xs then true else !bif bif impl_RunPair_0
    a b c d xs == spec_RunPair_0 a b c d xs then bif impl_RunPair_1 a b c d xs == spec_RunPair_1 a b c d xs then true else false else false then bif bif
    impl_RunPair_2 a b c d xs == spec_RunPair_2 a b c d xs then bif impl_RunPair_3 a b c d xs == spec_RunPair_3 a b c d xs then true else false else false
    then true else false else false then true else impl_StepPair_4 s0 s1 s2 s3 s4 s5 s6 s7 != spec_StepPair_4 s0 s1 s2 s3 s4 s5 s6 s7 then true else !bif
    bif impl_StepPair_0 s0 s1 s2 s3 s4 s5 s6 s7 == spec_StepPair_0 s0 s1 s2 s3 s4 s5 s6 s7 then bif impl_StepPair_1 s0 s1 s2 s3 s4 s5 s6 s7 ==
    spec_StepPair_1 s0 s1 s2 s3 s4 s5 s6 s7 then true else false else false then bif bif impl_StepPair_2 s0 s1 s2 s3 s4 s5 s6 s7 == spec_StepPair_2 s0 s1
    s2 s3 s4 s5 s6 s7 then bif impl_StepPair_3 s0 s1 s2 s3 s4 s5 s6 s7 == spec_StepPair_3 s0 s1 s2 s3 s4 s5 s6 s7 then true else false else false then true
    else false else false then true else !impl_IsPair_0 a b c d == spec_IsPair_0 a b c d then true else !impl_IsPairEvent_0 s4 s5 s6 s7 ==
    spec_IsPairEvent_0 s4 s5 s6 s7) || (impl_RunPair_4 a b c d xs != (0 : Int) || impl_RunPair_5 a b c d (List.drop (Int.toNat (0 : Int)) (List.take
    (Int.toNat K) xs)))), g || ((bif bif bif bif bif impl_RunPair_4 a b c d xs != spec_RunPair_4 a b c d xs then true else !bif bif impl_RunPair_0 a b c d
    xs == spec_RunPair_0 a b c d xs then bif impl_RunPair_1 a b c d xs == spec_RunPair_1 a b c d xs then true else false else false then bif bif
    impl_RunPair_2 a b c d xs == spec_RunPair_2 a b c d xs then bif impl_RunPair_3 a b c d xs == spec_RunPair_3 a b c d xs then true else false else false
    then true else false else false then true else impl_StepPair_4 s0 s1 s2 s3 s4 s5 s6 s7 != spec_StepPair_4 s0 s1 s2 s3 s4 s5 s6 s7 then true else !bif
    bif impl_StepPair_0 s0 s1 s2 s3 s4 s5 s6 s7 == spec_StepPair_0 s0 s1 s2 s3 s4 s5 s6 s7 then bif impl_StepPair_1 s0 s1 s2 s3 s4 s5 s6 s7 ==
    spec_StepPair_1 s0 s1 s2 s3 s4 s5 s6 s7 then true else false else false then bif bif impl_StepPair_2 s0 s1 s2 s3 s4 s5 s6 s7 == spec_StepPair_2 s0 s1
    s2 s3 s4 s5 s6 s7 then bif impl_StepPair_3 s0 s1 s2 s3 s4 s5 s6 s7 == spec_StepPair_3 s0 s1 s2 s3 s4 s5 s6 s7 then true else false else false then true
    else false else false then true else !impl_IsPair_0 a b c d == spec_IsPair_0 a b c d then true else !impl_IsPairEvent_0 s4 s5 s6 s7 ==
    spec_IsPairEvent_0 s4 s5 s6 s7) || (impl_RunPair_4 a b c d xs != (0 : Int) || decide ((0 : Int) ≤ K))), g || ((bif bif bif bif bif impl_RunPair_4 a b c
    d xs != spec_RunPair_4 a b c d xs then true else !bif bif impl_RunPair_0 a b c d xs == spec_RunPair_0 a b c d xs then bif impl_RunPair_1 a b c d xs ==
    spec_RunPair_1 a b c d xs then true else false else false then bif bif impl_RunPair_2 a b c d xs == spec_RunPair_2 a b c d xs then bif impl_RunPair_3 a
    b c d xs == spec_RunPair_3 a b c d xs then true else false else false then true else false else false then true else impl_StepPair_4 s0 s1 s2 s3 s4 s5
    s6 s7 != spec_StepPair_4 s0 s1 s2 s3 s4 s5 s6 s7 then true else !bif bif impl_StepPair_0 s0 s1 s2 s3 s4 s5 s6 s7 == spec_StepPair_0 s0 s1 s2 s3 s4 s5
    s6 s7 then bif impl_StepPair_1 s0 s1 s2 s3 s4 s5 s6 s7 == spec_StepPair_1 s0 s1 s2 s3 s4 s5 s6 s7 then true else false else false then bif bif
    impl_StepPair_2 s0 s1 s2 s3 s4 s5 s6 s7 == spec_StepPair_2 s0 s1 s2 s3 s4 s5 s6 s7 then bif impl_StepPair_3 s0 s1 s2 s3 s4 s5 s6 s7 == spec_StepPair_3
    s0 s1 s2 s3 s4 s5 s6 s7 then true else false else false then true else false else false then true else !impl_IsPair_0 a b c d == spec_IsPair_0 a b c d
    then true else !impl_IsPairEvent_0 s4 s5 s6 s7 == spec_IsPairEvent_0 s4 s5 s6 s7) || (impl_RunPair_4 a b c d xs != (0 : Int) || decide (K ≤
    (↑(List.length xs) : Int)))), g || ((bif bif bif bif bif impl_RunPair_4 a b c d xs != spec_RunPair_4 a b c d xs then true else !bif bif impl_RunPair_0
    a b c d xs == spec_RunPair_0 a b c d xs then bif impl_RunPair_1 a b c d xs == spec_RunPair_1 a b c d xs then true else false else false then bif bif
    impl_RunPair_2 a b c d xs == spec_RunPair_2 a b c d xs then bif impl_RunPair_3 a b c d xs == spec_RunPair_3 a b c d xs then true else false else false
    then true else false else false then true else impl_StepPair_4 s0 s1 s2 s3 s4 s5 s6 s7 != spec_StepPair_4 s0 s1 s2 s3 s4 s5 s6 s7 then true else !bif
    bif impl_StepPair_0 s0 s1 s2 s3 s4 s5 s6 s7 == spec_StepPair_0 s0 s1 s2 s3 s4 s5 s6 s7 then bif impl_StepPair_1 s0 s1 s2 s3 s4 s5 s6 s7 ==
    spec_StepPair_1 s0 s1 s2 s3 s4 s5 s6 s7 then true else false else false then bif bif impl_StepPair_2 s0 s1 s2 s3 s4 s5 s6 s7 == spec_StepPair_2 s0 s1
    s2 s3 s4 s5 s6 s7 then bif impl_StepPair_3 s0 s1 s2 s3 s4 s5 s6 s7 == spec_StepPair_3 s0 s1 s2 s3 s4 s5 s6 s7 then true else false else false then true
    else false else false then true else !impl_IsPair_0 a b c d == spec_IsPair_0 a b c d then true else !impl_IsPairEvent_0 s4 s5 s6 s7 ==
    spec_IsPairEvent_0 s4 s5 s6 s7) || (impl_RunPair_4 a b c d xs != (0 : Int) || decide ((↑(List.length xs) : Int) ≤ (↑(List.length xs) : Int)))), g ||
    ((bif bif bif bif bif impl_RunPair_4 a b c d xs != spec_RunPair_4 a b c d xs then true else !bif bif impl_RunPair_0 a b c d xs == spec_RunPair_0 a b c
    d xs then bif impl_RunPair_1 a b c d xs == spec_RunPair_1 a b c d xs then true else false else false then bif bif impl_RunPair_2 a b c d xs ==
    spec_RunPair_2 a b c d xs then bif impl_RunPair_3 a b c d xs == spec_RunPair_3 a b c d xs then true else false else false then true else false else
    false then true else impl_StepPair_4 s0 s1 s2 s3 s4 s5 s6 s7 != spec_StepPair_4 s0 s1 s2 s3 s4 s5 s6 s7 then true else !bif bif impl_StepPair_0 s0 s1
    s2 s3 s4 s5 s6 s7 == spec_StepPair_0 s0 s1 s2 s3 s4 s5 s6 s7 then bif impl_StepPair_1 s0 s1 s2 s3 s4 s5 s6 s7 == spec_StepPair_1 s0 s1 s2 s3 s4 s5 s6
    s7 then true else false else false then bif bif impl_StepPair_2 s0 s1 s2 s3 s4 s5 s6 s7 == spec_StepPair_2 s0 s1 s2 s3 s4 s5 s6 s7 then bif
    impl_StepPair_3 s0 s1 s2 s3 s4 s5 s6 s7 == spec_StepPair_3 s0 s1 s2 s3 s4 s5 s6 s7 then true else false else false then true else false else false then
    true else !impl_IsPair_0 a b c d == spec_IsPair_0 a b c d then true else !impl_IsPairEvent_0 s4 s5 s6 s7 == spec_IsPairEvent_0 s4 s5 s6 s7) ||
    (impl_RunPair_4 a b c d xs != (0 : Int) || impl_RunPair_5 (impl_RunPair_0 a b c d (List.drop (Int.toNat (0 : Int)) (List.take (Int.toNat K) xs)))
    (impl_RunPair_1 a b c d (List.drop (Int.toNat (0 : Int)) (List.take (Int.toNat K) xs))) (impl_RunPair_2 a b c d (List.drop (Int.toNat (0 : Int))
    (List.take (Int.toNat K) xs))) (impl_RunPair_3 a b c d (List.drop (Int.toNat (0 : Int)) (List.take (Int.toNat K) xs))) (List.drop (Int.toNat K)
    (List.take (Int.toNat (↑(List.length xs) : Int)) xs)))), g || ((bif bif bif bif bif impl_RunPair_4 a b c d xs != spec_RunPair_4 a b c d xs then true
    else !bif bif impl_RunPair_0 a b c d xs == spec_RunPair_0 a b c d xs then bif impl_RunPair_1 a b c d xs == spec_RunPair_1 a b c d xs then true else
    false else false then bif bif impl_RunPair_2 a b c d xs == spec_RunPair_2 a b c d xs then bif impl_RunPair_3 a b c d xs == spec_RunPair_3 a b c d xs
    then true else false else false then true else false else false then true else impl_StepPair_4 s0 s1 s2 s3 s4 s5 s6 s7 != spec_StepPair_4 s0 s1 s2 s3
    s4 s5 s6 s7 then true else !bif bif impl_StepPair_0 s0 s1 s2 s3 s4 s5 s6 s7 == spec_StepPair_0 s0 s1 s2 s3 s4 s5 s6 s7 then bif impl_StepPair_1 s0 s1
    s2 s3 s4 s5 s6 s7 == spec_StepPair_1 s0 s1 s2 s3 s4 s5 s6 s7 then true else false else false then bif bif impl_StepPair_2 s0 s1 s2 s3 s4 s5 s6 s7 ==
    spec_StepPair_2 s0 s1 s2 s3 s4 s5 s6 s7 then bif impl_StepPair_3 s0 s1 s2 s3 s4 s5 s6 s7 == spec_StepPair_3 s0 s1 s2 s3 s4 s5 s6 s7 then true else
    false else false then true else false else false then true else !impl_IsPair_0 a b c d == spec_IsPair_0 a b c d then true else !impl_IsPairEvent_0 s4
    s5 s6 s7 == spec_IsPairEvent_0 s4 s5 s6 s7) || (impl_RunPair_4 a b c d xs != (0 : Int) || impl_GreatestActive_2 a b c d xs))]

theorem cp_eq (x0 : List Int) : laws_FnControllerPairs_0 x0 = bif laws_big_0 x0 then true else cpLaw (loop_example_g00916_laws_dice_below_0 (IntKind.wrap IntKind.i64 ((↑(List.length (spec_DrawRunPair_4 x0)) : Int) + (1 : Int))) (0 : Int) (laws_roll_0 (3101 : Int) x0) x0) (spec_DrawRunPair_0 x0) (spec_DrawRunPair_1 x0) (spec_DrawRunPair_2 x0) (spec_DrawRunPair_3 x0) (spec_DrawRunPair_4 x0) (spec_DrawStepPair_0 x0) (spec_DrawStepPair_1 x0) (spec_DrawStepPair_2 x0) (spec_DrawStepPair_3 x0) (spec_DrawStepPair_4 x0) (spec_DrawStepPair_5 x0) (spec_DrawStepPair_6 x0) (spec_DrawStepPair_7 x0) := rfl

theorem cp_need (x0 : List Int) : laws_FnControllerPairs_1 x0 = cpNeed (laws_big_0 x0) (spec_DrawRunPair_5 x0) (spec_DrawStepPair_8 x0) (laws_roll_1 (3101 : Int) x0) (loop_example_g00916_laws_dice_below_3 (IntKind.wrap IntKind.i64 ((↑(List.length (spec_DrawRunPair_4 x0)) : Int) + (1 : Int))) (0 : Int) x0) (loop_example_g00916_laws_dice_below_0 (IntKind.wrap IntKind.i64 ((↑(List.length (spec_DrawRunPair_4 x0)) : Int) + (1 : Int))) (0 : Int) (laws_roll_0 (3101 : Int) x0) x0) (spec_DrawRunPair_0 x0) (spec_DrawRunPair_1 x0) (spec_DrawRunPair_2 x0) (spec_DrawRunPair_3 x0) (spec_DrawRunPair_4 x0) (spec_DrawStepPair_0 x0) (spec_DrawStepPair_1 x0) (spec_DrawStepPair_2 x0) (spec_DrawStepPair_3 x0) (spec_DrawStepPair_4 x0) (spec_DrawStepPair_5 x0) (spec_DrawStepPair_6 x0) (spec_DrawStepPair_7 x0) := rfl

theorem cpLaw_ok (K a b c d : Int) (xs : List Ev) (s0 s1 s2 s3 s4 s5 : Int) (s6 s7 : Bool) (hK : xs.length ≤ 200 → 0 ≤ K ∧ K ≤ (xs.length : Int)) : cpLaw K a b c d xs s0 s1 s2 s3 s4 s5 s6 s7 = true := by
  obtain ⟨⟨e0, e1, e2, e3, e4⟩, _⟩ := runPair_eq a b c d xs
  obtain ⟨⟨f0, f1, f2, f3, f4⟩, _⟩ := runPair_eq s0 s1 s2 s3 [(s4, s5, s6, s7)]
  by_cases hc : spec_RunPair_4 a b c d xs = 0
  · obtain ⟨hn, hp, he, z, hz⟩ := run_zero ((a, b), (c, d)) xs hc
    obtain ⟨k0, k1⟩ := hK hn
    have hsplit : xs.take K.toNat ++ xs.drop K.toNat = xs := List.take_append_drop _ _
    have hz2 := hz
    rw [← hsplit, runs_append] at hz2
    obtain ⟨q, hq, hq2⟩ := Option.bind_eq_some_iff.1 hz2
    have he2 := he
    rw [← hsplit, List.all_append, Bool.and_eq_true] at he2
    have hpq := runs_isP _ _ _ he2.1 hp hq
    have hpz := runs_isP _ _ _ he hp hz
    obtain ⟨⟨t4, t0, t1, t2, t3⟩, _⟩ := run_of ((a, b), (c, d)) (xs.take K.toNat) q (by rw [List.length_take]; omega) hp he2.1 hq
    obtain ⟨⟨u4, u0, u1, u2, u3⟩, _⟩ := run_of q (xs.drop K.toNat) z (by rw [List.length_drop]; omega) hpq he2.2 hq2
    obtain ⟨⟨v4, v0, v1, v2, v3⟩, v5, v6⟩ := run_of ((a, b), (c, d)) xs z hn hp he hz
    simp only at t4 t0 t1 t2 t3 v4 v0 v1 v2 v3 v5 v6
    have hzi : impl_IsPair_0 z.1.1 z.1.2 z.2.1 z.2.2 = true := hpz
    have ha : loop_example_g00916_impl_Pair_active_0 z.1.1 z.2.1 = act z := act_eq _ _
    rw [e0] at v0; rw [e1] at v1; rw [e2] at v2; rw [e3] at v3
    simp [cpLaw, impl_StepPair_0, impl_StepPair_1, impl_StepPair_2, impl_StepPair_3, impl_StepPair_4, spec_StepPair_0, spec_StepPair_1, spec_StepPair_2, spec_StepPair_3, spec_StepPair_4, e0, e1, e2, e3, e4, f0, f1, f2, f3, f4, isPair_eq, isEv_eq, hc, t4, t0, t1, t2, t3, u4, u0, u1, u2, u3, v0, v1, v2, v3, v5, v6, impl_ActiveCount_0, impl_ActiveCount_1, hzi, ha]
  · simp [cpLaw, impl_StepPair_0, impl_StepPair_1, impl_StepPair_2, impl_StepPair_3, impl_StepPair_4, spec_StepPair_0, spec_StepPair_1, spec_StepPair_2, spec_StepPair_3, spec_StepPair_4, e0, e1, e2, e3, e4, f0, f1, f2, f3, f4, isPair_eq, isEv_eq, hc]

theorem cpNeed_ok (K a b c d : Int) (xs : List Ev) (s0 s1 s2 s3 s4 s5 : Int) (s6 s7 : Bool) (b3 : Bool) (hb : xs.length ≤ 200 → b3 = true) (hK : xs.length ≤ 200 → 0 ≤ K ∧ K ≤ (xs.length : Int)) : cpNeed false true true true b3 K a b c d xs s0 s1 s2 s3 s4 s5 s6 s7 = true := by
  obtain ⟨⟨e0, e1, e2, e3, e4⟩, e5, e6⟩ := runPair_eq a b c d xs
  obtain ⟨_, f5, f6⟩ := runPair_eq s0 s1 s2 s3 [(s4, s5, s6, s7)]
  have i5 : impl_StepPair_5 s0 s1 s2 s3 s4 s5 s6 s7 = true := by simp [impl_StepPair_5, allT, f5]
  have i6 : spec_StepPair_5 s0 s1 s2 s3 s4 s5 s6 s7 = true := by simp [spec_StepPair_5, allT, f6]
  have hr5 : ∀ x0 x1 x2 x3 ys, impl_RunPair_5 x0 x1 x2 x3 ys = true := fun x0 x1 x2 x3 ys => (runPair_eq x0 x1 x2 x3 ys).2.1
  have hg2 : ∀ x0 x1 x2 x3 ys, impl_GreatestActive_2 x0 x1 x2 x3 ys = true := fun x0 x1 x2 x3 ys => (greatest_eq x0 x1 x2 x3 ys).2.2.1
  by_cases hc : impl_RunPair_4 a b c d xs = 0
  · have hn := (run_zero ((a, b), (c, d)) xs (by rw [← hc]; exact e4.symm)).1
    obtain ⟨k0, k1⟩ := hK hn
    have d0 : decide ((0 : Int) ≤ K) = true := decide_eq_true k0
    have d1 : decide (K ≤ (↑(List.length xs) : Int)) = true := decide_eq_true k1
    have d2 : decide ((0 : Int) ≤ 0) = true := rfl
    have d3 : decide ((↑(List.length xs) : Int) ≤ (↑(List.length xs) : Int)) = true := decide_eq_true (Int.le_refl _)
    simp only [cpNeed, allT, e6, i5, i6, hr5, hg2, hb hn, d0, d1, d2, d3, Bool.or_true, Bool.false_or, Bool.true_or, cond_true]
  · have hne : (impl_RunPair_4 a b c d xs != 0) = true := by simp [hc]
    simp only [cpNeed, allT, e6, i5, i6, hr5, hne, Bool.or_true, Bool.false_or, Bool.true_or, cond_true]

theorem roll_ok (code : List Int) (hn : code.length ≤ 4096) (x : Int) : laws_roll_1 x code = true := by
  have key := lp_laws_roll_l0.walk (fun i (h : Int) => ((i : Int), code, (0 : Int), h)) (fun b h => .inr (IntKind.wrap IntKind.u64 (IntKind.wrap IntKind.u64 (IntKind.wrap IntKind.u64 (h * (1099511628211 : Int)) + IntKind.wrap IntKind.u64 b) + (5 : Int)))) 0 (fun _ _ => True) code
    (fun i b h he _ => ⟨?_, fun _ _ => trivial⟩) (fun h _ => ?_) (IntKind.wrap IntKind.u64 (IntKind.wrap IntKind.u64 (x * (6007 : Int)) + IntKind.wrap IntKind.u64 (↑(List.length code) : Int))) trivial (by simp only [lp_laws_roll_l0]; omega)
  · have k1 : lp_laws_roll_l0.fin ((0 : Int), code, (0 : Int), IntKind.wrap IntKind.u64 (IntKind.wrap IntKind.u64 (x * (6007 : Int)) + IntKind.wrap IntKind.u64 (↑(List.length code) : Int))) = true := key.1
    simp only [laws_roll_1, allT, k1, cond_true]
  · obtain ⟨hlt, he⟩ := List.getElem?_eq_some_iff.1 he
    subst he
    have hw := wrap64 hlt (by omega)
    simp [lp_laws_roll_l0, lt_laws_roll_l0, LT.out, allT, laws_roll_l0_0, laws_roll_l0_1, laws_roll_l0_2, laws_roll_l0_3, laws_roll_l0_4, hlt, hw]
  · simp [lp_laws_roll_l0, lt_laws_roll_l0, LT.out, laws_roll_l0_0]

theorem below_ok (n h : Int) (code : List Int) (hn : 1 ≤ n) (hb : ∀ (i : Nat) (x : Int), code[i]? = some x → 0 ≤ x ∧ x ≤ 255) :
    loop_example_g00916_laws_dice_below_3 n 0 code = true ∧ 0 ≤ loop_example_g00916_laws_dice_below_0 n 0 h code ∧ loop_example_g00916_laws_dice_below_0 n 0 h code < n := by
  refine ⟨?_, ?_⟩
  · have hne : n ≠ 0 := by omega
    simp [loop_example_g00916_laws_dice_below_3, allT, hne]
  · have hv : ∀ A : BitVec (IntKind.bits IntKind.u64), (A &&& BitVec.ofInt (IntKind.bits IntKind.u64) (16777215 : Int)).toNat ≤ 16777215 := fun A => by
      rw [BitVec.toNat_and]
      exact Nat.le_trans Nat.and_le_right (by decide)
    have hu : ∀ v : Nat, v ≤ 16777215 → IntKind.u64.wrap (v : Int) = v := fun v h => by
      have hb : IntKind.u64.bits = 64 := rfl
      have hs : IntKind.u64.signed = false := rfl
      simp only [IntKind.wrap, hb, hs, Bool.false_and, Bool.false_eq_true, if_false]
      omega
    simp only [loop_example_g00916_laws_dice_below_0]
    have hA := hv (BitVec.ofInt (IntKind.bits IntKind.u64) (Int.fdiv (IntKind.wrap IntKind.u64 (IntKind.wrap IntKind.u64 (h * (6364136223846793005 : Int)) + (1442695040888963407 : Int))) ((2 : Int) ^ min (Int.toNat (33 : Int)) (IntKind.bits IntKind.u64))))
    generalize BitVec.toNat (BitVec.ofInt (IntKind.bits IntKind.u64) (Int.fdiv (IntKind.wrap IntKind.u64 (IntKind.wrap IntKind.u64 (h * (6364136223846793005 : Int)) + (1442695040888963407 : Int))) ((2 : Int) ^ min (Int.toNat (33 : Int)) (IntKind.bits IntKind.u64))) &&& BitVec.ofInt (IntKind.bits IntKind.u64) (16777215 : Int)) = v at hA ⊢
    obtain ⟨c0, c1⟩ := code_get hb (Int.toNat 0)
    rw [hu v hA, wrap_i64 (x := (v : Int)) (by omega) (by omega), wrap_i64 (x := code[Int.toNat 0]?.getD 0) (by omega) (by omega), wrap_i64 (x := (v : Int) + code[Int.toNat 0]?.getD 0) (by omega) (by omega)]
    cases decide ((0 : Int) < (↑(List.length code) : Int)) with
    | true => exact tmod_pos (by simp only [cond_true]; omega) (by omega)
    | false => exact tmod_pos (by simp only [cond_false]; omega) (by omega)

theorem drawRun_ok (code : List Int) (hn : code.length ≤ 4096) (hb : ∀ (i : Nat) (x : Int), code[i]? = some x → 0 ≤ x ∧ x ≤ 255) : spec_DrawRunPair_5 code = true := by
  have h0 := from_ok code hn hb
  have n4 := next_ok 4 h0.2
  have p1 := drawPair_ok n4.2.1
  simp only [spec_DrawRunPair_5, allT, h0.1, n4.1, p1.1, drawEvents_ok p1.2, drawEvents_ok n4.2.1, Bool.or_true, cond_true]

theorem drawStep_ok (code : List Int) (hn : code.length ≤ 4096) (hb : ∀ (i : Nat) (x : Int), code[i]? = some x → 0 ≤ x ∧ x ≤ 255) : spec_DrawStepPair_8 code = true := by
  have h0 := from_ok code hn hb
  have p1 := drawPair_ok h0.2
  simp only [spec_DrawStepPair_8, allT, h0.1, p1.1, (drawEvent_ok p1.2).1, cond_true]

theorem law_ControllerPairs (x0 : List Int) (hb : ∀ (i : Nat) (x : Int), x0[i]? = some x → 0 ≤ x ∧ x ≤ 255) : laws_FnControllerPairs_0 x0 = true ∧ laws_FnControllerPairs_1 x0 = true := by
  rw [cp_eq, cp_need]
  cases hg : laws_big_0 x0 with
  | true =>
    refine ⟨rfl, ?_⟩
    simp only [cpNeed, allT, Bool.true_or, cond_true]
  | false =>
    have hn : x0.length ≤ 4096 := by
      have := of_decide_eq_false hg
      omega
    rw [drawRun_ok x0 hn hb, drawStep_ok x0 hn hb, roll_ok x0 hn]
    generalize spec_DrawRunPair_4 x0 = xs
    have hw : xs.length ≤ 200 → IntKind.i64.wrap ((xs.length : Int) + 1) = (xs.length : Int) + 1 := fun h => wrap_i64 (by omega) (by omega)
    refine ⟨cpLaw_ok _ _ _ _ _ _ _ _ _ _ _ _ _ _ fun h => ?_, cpNeed_ok _ _ _ _ _ _ _ _ _ _ _ _ _ _ _ (fun h => ?_) fun h => ?_⟩
    · rw [hw h]
      have := below_ok ((xs.length : Int) + 1) (laws_roll_0 3101 x0) x0 (by omega) hb
      omega
    · rw [hw h]
      exact (below_ok ((xs.length : Int) + 1) (laws_roll_0 3101 x0) x0 (by omega) hb).1
    · rw [hw h]
      have := below_ok ((xs.length : Int) + 1) (laws_roll_0 3101 x0) x0 (by omega) hb
      omega

end Go.SX
