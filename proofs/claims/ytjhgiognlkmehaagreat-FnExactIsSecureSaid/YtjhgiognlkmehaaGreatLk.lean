/- Tolerated faults, plain: two readings. -/
import Derived.Test.YtjhgiognlkmehaaGreatNk
namespace Go.SX
open Go.Proofs
set_option maxRecDepth 100000

/-! ### Words for rides -/

/-- Restraints. -/
def areR (st : List Int) : Bool := inR (st.length : Int) 1 12 && st.all fun v => inR v 0 2
def rowsR (rs : List (List Int)) : Int := ((rs[0]?.getD []).length : Int)
def rsOk (rs : List (List Int)) : Bool := rs.all fun st => areR st && ((st.length : Int) == rowsR rs)
def lfOk (n : Int) (lf : List (Int × Int × Int)) : Bool := inR n 1 12 && okFs n lf
def plIn (t : Int × Int) : Bool := inR t.1 1 366 && inR t.2 0 100000
def okPl (pl : List (Int × Int)) : Bool := leN pl.length 12 && pl.all plIn
def lkIn (x : Int × Int) : Bool := inR x.1 0 23 && inR x.2 1 999
def lkAt (ls : List (Int × Int)) (b : Nat) : Int × Int := ls[b]?.getD (0, 0)
def lkSame (x y : Int × Int) : Bool := y.1 == x.1 && y.2 == x.2
def lkBad (ls : List (Int × Int)) (b : Nat) : Bool := !lkIn (lkAt ls b)
def lkDup (ls : List (Int × Int)) (b : Nat) : Bool := (ls.take b).any (lkSame (lkAt ls b))
def okLk (ls : List (Int × Int)) : Bool := leN ls.length 8 && (List.range ls.length).all fun b => !(lkBad ls b || lkDup ls b)
/-- A valid ride. -/
def okRide (n : Int) (ps : List Int) (fs : List (Int × Int × Int)) (rs : List (List Int)) (lf : List (Int × Int × Int)) (mode : Int) (pl ls : List (Int × Int)) (day : Int) : Bool :=
  isT n ps && (okFs n fs && (decide (rs.length = ps.length) && (rsOk rs && (lfOk (rowsR rs) lf && (inR mode 0 5 && (okPl pl && (okLk ls && inR day 0 100000)))))))

theorem find_first {C : Type} {P : C → Bool} : ∀ (l : List C) (i : Nat) (hi : i < l.length), P l[i] = true → ((l.takeWhile fun x => !P x).length = i ↔ (l.take i).any P = false)
  | [], i, hi, _ => by simp at hi
  | a :: r, 0, hi, h => by
    have h : P a = true := h
    simp [List.takeWhile_cons, h]
  | a :: r, i + 1, hi, h => by
    have hi' : i < r.length := by simpa using hi
    have h' : P r[i] = true := h
    have ih := find_first r i hi' h'
    rw [List.take_succ_cons, List.any_cons, List.takeWhile_cons]
    cases ha : P a with
    | true => simp
    | false =>
      simp only [Bool.not_false, if_true, List.length_cons, Bool.false_or]
      rw [← ih]; omega

theorem least_two : ∀ (xs : List Int) (m : Int), 0 ≤ m → m ≤ 2 → (∀ x ∈ xs, 0 ≤ x ∧ x ≤ 2) → ((xs.foldl (fun m b => bif ltI b m then b else m) m) == 2) = (m == 2 && xs.all fun x => x == 2)
  | [], m, _, _, _ => by simp
  | x :: xs, m, h0, h1, h => by
    have hx := h x (by simp)
    rw [List.foldl_cons, List.all_cons]
    cases hl : ltI x m with
    | true =>
      have := ltI_iff.1 hl
      rw [cond_true, least_two xs x hx.1 hx.2 fun y hy => h y (by simp [hy])]
      have hm : (x == 2) = false := by simp; omega
      simp [hm]
    | false =>
      have := ltI_not.1 hl
      rw [cond_false, least_two xs m h0 h1 fun y hy => h y (by simp [hy])]
      by_cases hm : m = 2
      · have hx2 : x = 2 := by omega
        subst hm; subst hx2; simp
      · have : (m == 2) = false := by simpa using hm
        simp [this]

end Go.SX
