/- Traffic, in plain words: the reference's moves. -/
import Derived.Test.YtjncnnpdaeociaaRe
namespace Go.SX
open Go.Proofs
set_option maxRecDepth 100000

/-- The places behind moves; they end where the traffic is not safe. -/
def runM (n : Int) : List Int → List Int → List Int
  | [], ps => ps
  | t :: r, ps => bif isSf n ps then runM n r (movL n ps t) else ps

theorem runM_length (n : Int) : ∀ (ts ps : List Int), (runM n ts ps).length = ps.length
  | [], ps => rfl
  | t :: r, ps => by
    simp only [runM]
    cases isSf n ps with
    | true => rw [cond_true, runM_length n r, movL_length]
    | false => rfl

def rmOk (n : Int) (ps ts : List Int) : Bool := isT n ps && (leN ts.length 200 && (ts.all (hasT ps) && isSf n (runM n ts ps)))
def rmCode (n : Int) (ps ts : List Int) : Int := bif isT n ps then (bif leN ts.length 200 then (bif ts.all (hasT ps) then (bif isSf n (runM n ts ps) then 0 else 5) else 2) else 3) else 1
def rmN (n : Int) (ps ts : List Int) : Int := bif rmOk n ps ts then n else 0
def rmP (n : Int) (ps ts : List Int) : List Int := bif rmOk n ps ts then runM n ts ps else []

theorem ltI_200 (ts : List Int) : ltI 200 (ts.length : Int) = !leN ts.length 200 := by
  cases h : leN ts.length 200 with
  | true => have := leN_iff.1 h; exact ltI_f (by omega)
  | false => have := leN_not.1 h; exact ltI_t (by omega)

end Go.SX
