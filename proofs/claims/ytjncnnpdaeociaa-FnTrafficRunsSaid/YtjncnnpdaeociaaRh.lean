/- What functions of the program come to, row by row (made by a program of the workplace). -/
import Derived.Test.YtjncnnpdaeociaaTXh
import Derived.Test.YtjncnnpdaeociaaProg
import Derived.Test.YtjncnnpdaeociaaNg
namespace Go.SX
open Go.Proofs
set_option maxRecDepth 100000

def loop_example_g00916_impl_Traffic_isSafe_0 (x0 : Int) (x1 : List Int) : Bool :=
  leI (maxL (usesTo x0 x1)) (1 : Int)

def loop_example_g00916_impl_Traffic_isSafe_1 (x0 : Int) (x1 : List Int) : Bool :=
  allT [isT x0 x1, leN (1 : Nat) (List.length (usesTo x0 x1)) && leN (List.length (usesTo x0 x1)) (1048576 : Nat)]

def F_loop_example_g00916_impl_Traffic_isSafe : List SV → List Entry → Option Out
  | [.one ⟨true, [.val (.int .i64 x0), .ref 0]⟩], [.row false 2 (.int .i64) x1] => some ⟨(.one ⟨false, [(.val (.bool (loop_example_g00916_impl_Traffic_isSafe_0 x0 x1)))]⟩), [(.row false 2 (CTy.int IntKind.i64) x1)], [], [(loop_example_g00916_impl_Traffic_isSafe_1 x0 x1)]⟩
  | _, _ => none

def p_loop_example_g00916_impl_Traffic_isSafe : PF Try.prog := PF.ofG Try.prog [n_slices_Max_int64_int64, PF.lend n_slices_Max_int64_int64, PF.fz n_slices_Max_int64_int64, n_loop_example_g00916_impl_Traffic_uses, PF.lend n_loop_example_g00916_impl_Traffic_uses, PF.fz n_loop_example_g00916_impl_Traffic_uses] [] hmix 90 Try.f90 Try.func90 (fun c _ => LOk.nil c) F_loop_example_g00916_impl_Traffic_isSafe (by
  intro vs es r h; unfold F_loop_example_g00916_impl_Traffic_isSafe at h; split at h
  · cases h; kernel_rfl
  · cases h)

end Go.SX
