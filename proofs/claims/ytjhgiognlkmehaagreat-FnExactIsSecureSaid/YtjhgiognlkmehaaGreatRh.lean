/- What functions of the program come to, row by row (made by a program of the workplace). -/
import Derived.Test.YtjhgiognlkmehaaGreatTXh
import Derived.Test.YtjhgiognlkmehaaGreatProg
import Derived.Test.YtjhgiognlkmehaaGreatNg
namespace Go.SX
open Go.Proofs
set_option maxRecDepth 100000

def loop_example_g00916_impl_Traffic_isSafe_0 (x0 : Int) (x1 : List Int) : Bool :=
  leI (maxL (usesTo x0 x1)) (1 : Int)

def loop_example_g00916_impl_Traffic_isSafe_1 (x0 : Int) (x1 : List Int) : Bool :=
  allT [isT x0 x1, leN (1 : Nat) (List.length (usesTo x0 x1)) && leN (List.length (usesTo x0 x1)) (1048576 : Nat)]

def F_loop_example_g00916_impl_Traffic_isSafe : List SV → List Entry → Option Out
  | [.one ⟨true, [.val (.int .i64 x0), .ref 0]⟩], [.row false 2 (.int .i64) x1] => some ⟨(.one ⟨false, [(.val (.bool (loop_example_g00916_impl_Traffic_isSafe_0 x0 x1)))]⟩), [(.row false 2 (CTy.int IntKind.i64) x1)], [], [(loop_example_g00916_impl_Traffic_isSafe_1 x0 x1)]⟩
  | _, _ => none

def p_loop_example_g00916_impl_Traffic_isSafe : PF Tryz.prog := PF.ofG Tryz.prog [n_slices_Max_int64_int64, PF.lend n_slices_Max_int64_int64, PF.fz n_slices_Max_int64_int64, n_loop_example_g00916_impl_Traffic_uses, PF.lend n_loop_example_g00916_impl_Traffic_uses, PF.fz n_loop_example_g00916_impl_Traffic_uses] [] hmix 26 Tryz.f26 Tryz.func26 (fun c _ => LOk.nil c) F_loop_example_g00916_impl_Traffic_isSafe (by
  intro vs es r h; unfold F_loop_example_g00916_impl_Traffic_isSafe at h; split at h
  · cases h; kernel_rfl
  · cases h)

end Go.SX
