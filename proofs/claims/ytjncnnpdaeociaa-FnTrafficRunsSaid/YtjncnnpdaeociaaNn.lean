/- The first collision, in plain words. -/
import Derived.Test.YtjncnnpdaeociaaRn
namespace Go.SX
open Go.Proofs
set_option maxRecDepth 100000

theorem fstL_done (n : Int) : ∀ (L : List (List Int)) (j f : Int), 0 ≤ f → fstL n L j f = f
  | [], _, _, _ => rfl
  | p :: L, j, f, h => by
    have h1 : ltI f 0 = false := ltI_f h
    rw [fstL, fstL_done n L _ _ (by simp [updF, h1]; exact h)]
    simp [updF, h1]

theorem fstL_eq (n : Int) : ∀ (L : List (List Int)) (j : Int), 0 ≤ j → (∀ p ∈ L, isT n p = true) →
    fstL n L j (-1) = bif (L.map fun p => (n, p)).any (fun x => !safeL x.1 x.2) then j + (((L.map fun p => (n, p)).takeWhile fun x => !!safeL x.1 x.2).length : Int) else -1
  | [], _, _, _ => rfl
  | p :: L, j, h, hT => by
    have h1 : ltI (-1) 0 = true := rfl
    have hp : isSf n p = safeL n p := isSf_of (hT p (by simp))
    cases hs : safeL n p with
    | false =>
      rw [fstL, updF, h1, hp, hs]
      simp only [cond_true, Bool.not_false]
      rw [fstL_done n L _ _ h]
      simp [hs]
    | true =>
      rw [fstL, updF, h1, hp, hs]
      simp only [cond_true, Bool.not_true, cond_false]
      rw [fstL_eq n L (j + 1) (by omega) fun q hq => hT q (by simp [hq])]
      simp only [List.map_cons, List.any_cons, hs, Bool.not_true, Bool.false_or, List.takeWhile_cons, Bool.not_false, if_true, List.length_cons]
      cases (L.map fun p => (n, p)).any (fun x => !safeL x.1 x.2) with
      | true => simp only [cond_true]; omega
      | false => rfl

end Go.SX
