/- Tolerated faults, plain: two readings. -/
import Derived.Test.YtjhgiognlkmehaaNk
import Derived.Test.YtjhgiognlkmehaaRr
namespace Go.SX
open Go.Proofs
set_option maxRecDepth 100000

def hasI (x : Int) (l : List Int) : Bool := l.any fun v => v == x

def tolV (v : Int) : List (Int × Int × Int) → List Int → Bool
  | [], _ => true
  | f :: r, a => bif f.2.2 == v then !hasI f.1 a && tolV v r (a ++ [f.1]) else tolV v r a
def dupV (v : Int) (fs : List (Int × Int × Int)) (b : Nat) : Bool := (fs.take b).any fun g => g.1 == (fAt fs b).1 && (g.2.2 == v && (fAt fs b).2.2 == v)

theorem tolV_iff (v : Int) : ∀ (fs : List (Int × Int × Int)) (a : List Int), tolV v fs a = true ↔
    (∀ f ∈ fs, f.2.2 = v → f.1 ∉ a) ∧ fs.Pairwise (fun f g => f.2.2 = v → g.2.2 = v → f.1 ≠ g.1)
  | [], a => by simp [tolV]
  | f :: fs, a => by
    simp only [tolV, List.pairwise_cons]
    cases hz : f.2.2 == v with
    | false =>
      have hne : f.2.2 ≠ v := by simpa using hz
      rw [cond_false, tolV_iff v fs a]
      constructor
      · rintro ⟨h1, h2⟩
        exact ⟨fun g hg h => by
          rcases List.mem_cons.1 hg with rfl | hg
          · exact absurd h hne
          · exact h1 g hg h, fun g _ h => absurd h hne, h2⟩
      · rintro ⟨h1, _, h2⟩
        exact ⟨fun g hg h => h1 g (by simp [hg]) h, h2⟩
    | true =>
      have he : f.2.2 = v := by simpa using hz
      rw [cond_true, Bool.and_eq_true, tolV_iff v fs (a ++ [f.1])]
      have hh : (!hasI f.1 a) = true ↔ f.1 ∉ a := by
        simp only [hasI, Bool.not_eq_true', List.any_eq_false, beq_iff_eq]
        exact ⟨fun h hm => h _ hm rfl, fun h x hx e => h (e ▸ hx)⟩
      rw [hh]
      constructor
      · rintro ⟨h0, h1, h2⟩
        refine ⟨fun g hg h => ?_, fun g hg _ h e => h1 g hg h (by simp [e]), h2⟩
        rcases List.mem_cons.1 hg with rfl | hg
        · exact h0
        · exact fun hm => h1 g hg h (by simp [hm])
      · rintro ⟨h1, h2, h3⟩
        refine ⟨h1 f (by simp) he, fun g hg h hm => ?_, h3⟩
        rcases List.mem_append.1 hm with hm | hm
        · exact h1 g (by simp [hg]) h hm
        · simp at hm; exact h2 g hg he h hm.symm

theorem tolV_dup (v : Int) (fs : List (Int × Int × Int)) : tolV v fs [] = (List.range fs.length).all fun b => !dupV v fs b := by
  rw [Bool.eq_iff_iff, tolV_iff, List.pairwise_iff_getElem]
  simp only [List.not_mem_nil, not_false_eq_true, implies_true, true_and, List.all_eq_true, List.mem_range, Bool.not_eq_true', dupV, List.any_eq_false, Bool.and_eq_true, beq_iff_eq, not_and]
  constructor
  · intro h b hb g hg h1 h2 h3
    obtain ⟨i, hi, rfl⟩ := List.getElem_of_mem hg
    rw [List.length_take] at hi
    rw [List.getElem_take] at h1 h2
    simp only [fAt, List.getElem?_eq_getElem hb, Option.getD_some] at h1 h3
    exact h i b (by omega) hb (by omega) h2 h3 h1
  · intro h i j hi hj hij h2 h3 h1
    refine h j hj fs[i] ?_ ?_ h2 ?_
    · rw [List.mem_take_iff_getElem]; exact ⟨i, by omega, rfl⟩
    · simp only [fAt, List.getElem?_eq_getElem hj, Option.getD_some]; exact h1
    · simp only [fAt, List.getElem?_eq_getElem hj, Option.getD_some]; exact h3

/-! ### Words for rides -/

/-- Restraints. -/
def areR (st : List Int) : Bool := inR (st.length : Int) 1 12 && st.all fun v => inR v 0 2
def rowsR (rs : List (List Int)) : Int := ((rs[0]?.getD []).length : Int)
def rsOk (rs : List (List Int)) : Bool := rs.all fun st => areR st && ((st.length : Int) == rowsR rs)
def lfOk (n : Int) (lf : List (Int × Int × Int)) : Bool := inR n 1 12 && okFs n lf
def plIn (t : Int × Int) : Bool := inR t.1 1 366 && inR t.2 0 100000
def okPl (pl : List (Int × Int)) : Bool := leN pl.length 12 && pl.all plIn
def lkIn (x : Int × Int) : Bool := inR x.1 0 23 && inR x.2 1 999
def lkAt (ls : List (Int × Int)) (b : Nat) : Int × Int := ls[b]?.getD (0, 0)
def lkSame (x y : Int × Int) : Bool := y.1 == x.1 && y.2 == x.2
def lkBad (ls : List (Int × Int)) (b : Nat) : Bool := !lkIn (lkAt ls b)
def lkDup (ls : List (Int × Int)) (b : Nat) : Bool := (ls.take b).any (lkSame (lkAt ls b))
def okLk (ls : List (Int × Int)) : Bool := leN ls.length 8 && (List.range ls.length).all fun b => !(lkBad ls b || lkDup ls b)
/-- A valid ride. -/
def okRide (n : Int) (ps : List Int) (fs : List (Int × Int × Int)) (rs : List (List Int)) (lf : List (Int × Int × Int)) (mode : Int) (pl ls : List (Int × Int)) (day : Int) : Bool :=
  isT n ps && (okFs n fs && (decide (rs.length = ps.length) && (rsOk rs && (lfOk (rowsR rs) lf && (inR mode 0 5 && (okPl pl && (okLk ls && inR day 0 100000)))))))

theorem find_first {C : Type} {P : C → Bool} : ∀ (l : List C) (i : Nat) (hi : i < l.length), P l[i] = true → ((l.takeWhile fun x => !P x).length = i ↔ (l.take i).any P = false)
  | [], i, hi, _ => by simp at hi
  | a :: r, 0, hi, h => by
    have h : P a = true := h
    simp [List.takeWhile_cons, h]
  | a :: r, i + 1, hi, h => by
    have hi' : i < r.length := by simpa using hi
    have h' : P r[i] = true := h
    have ih := find_first r i hi' h'
    rw [List.take_succ_cons, List.any_cons, List.takeWhile_cons]
    cases ha : P a with
    | true => simp
    | false =>
      simp only [Bool.not_false, if_true, List.length_cons, Bool.false_or]
      rw [← ih]; omega

end Go.SX
