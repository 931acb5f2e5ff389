/- States and faults of blocks, in plain words. -/
import Derived.Test.YtepaifhehlpbaaaDoorNk
namespace Go.SX
open Go.Proofs
set_option maxRecDepth 100000

def isPos (k : Int) (s : ByteArray) (n a b c : Int) : Bool := blockB k s n && possB k n a b c
theorem posImpl (k : Int) (s : ByteArray) (n a b c : Int) : impl_IsPossible_0 k s n a b c = isPos k s n a b c := by
  simp only [impl_IsPossible_0, isPos]
  cases h : blockB k s n with
  | false => rfl
  | true => rw [poss_eq (blockB_iff h).1]; rfl

def N_impl_IsPossible : List SV → List Entry → Option Out
  | [.one ⟨true, [.val (.int .i64 x0), .val (.string x1), .val (.int .i64 x2)]⟩, .one ⟨true, [.val (.int .i64 x3), .val (.int .i64 x4), .val (.int .i64 x5)]⟩], [] => some ⟨(.one ⟨false, [(.val (.bool (isPos x0 x1 x2 x3 x4 x5)))]⟩), [], [], []⟩
  | _, _ => none

def n_impl_IsPossible : PF Tryd.prog := PF.alt p_impl_IsPossible N_impl_IsPossible (by
  intro args es o h hnd; unfold N_impl_IsPossible at h; split at h
  · rename_i x0 x1 x2 x3 x4 x5
    cases h
    have hh := posImpl x0 x1 x2 x3 x4 x5
    have e0 := hh
    exact altok rfl (fun _ h => by cases h) (by simp only [e0] <;> rfl) rfl rfl
  · cases h)

end Go.SX
