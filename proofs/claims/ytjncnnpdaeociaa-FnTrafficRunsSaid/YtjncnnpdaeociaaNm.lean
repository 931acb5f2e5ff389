/- Controlled runs, in plain words. -/
import Derived.Test.YtjncnnpdaeociaaRm
namespace Go.SX
open Go.Proofs
set_option maxRecDepth 100000

/-- A move is permitted by what the channels say. -/
def okMv (n : Int) (fs : List (Int × Int × Int)) (ps : List Int) (t : Int) : Bool := permB n ps (chanL n ps fs 0) (chanL n ps fs 1) t
def updF (n : Int) (j : Int) (ps : List Int) (f : Int) : Int := bif bif ltI f 0 then !isSf n ps else false then j else f
/-- After how many moves they are unsafe first. -/
def fstL (n : Int) : List (List Int) → Int → Int → Int
  | [], _, f => f
  | p :: r, j, f => fstL n r (j + 1) (updF n j p f)
theorem permOk_of {n t : Int} {ps : List Int} {fs : List (Int × Int × Int)} (hT : isT n ps = true) (hF : inFs n fs = true) (ht : hasT ps t = true) :
    permOk n ps (chanL n ps fs 0) (chanL n ps fs 1) t = true := by
  simp only [permOk, Bool.and_eq_true]
  exact ⟨mvOk_iff.2 ⟨hT, ht⟩, chan_rep n ps fs 0 hT hF, chan_rep n ps fs 1 hT hF⟩

end Go.SX
