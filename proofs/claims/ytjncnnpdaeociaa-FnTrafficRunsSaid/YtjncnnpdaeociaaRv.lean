/- What functions of the program come to, row by row (made by a program of the workplace). -/
import Derived.Test.YtjncnnpdaeociaaTXh
import Derived.Test.YtjncnnpdaeociaaProg
import Derived.Test.YtjncnnpdaeociaaNu
namespace Go.SX
open Go.Proofs
set_option maxRecDepth 100000

def impl_IsSafeTraffic_0 (x0 : Int) (x1 : List Int) : Bool :=
  bif isT x0 x1 then safeL x0 x1 else false

def impl_IsSafeTraffic_1 (x0 : Int) (x1 : List Int) : Bool :=
  allT [!(isT x0 x1 && true) || isT x0 x1]

def F_impl_IsSafeTraffic : List SV → List Entry → Option Out
  | [.one ⟨true, [.val (.int .i64 x0), .ref 0]⟩], [.row false 2 (.int .i64) x1] => some ⟨(.one ⟨false, [(.val (.bool (impl_IsSafeTraffic_0 x0 x1)))]⟩), [(.row false 2 (CTy.int IntKind.i64) x1)], [], [(impl_IsSafeTraffic_1 x0 x1)]⟩
  | _, _ => none

def p_impl_IsSafeTraffic : PF Try.prog := PF.ofG Try.prog [n_impl_IsTraffic, PF.lend n_impl_IsTraffic, PF.fz n_impl_IsTraffic, n_loop_example_g00916_impl_Traffic_isSafe, PF.lend n_loop_example_g00916_impl_Traffic_isSafe, PF.fz n_loop_example_g00916_impl_Traffic_isSafe] [] hmix 44 Try.f44 Try.func44 (fun c _ => LOk.nil c) F_impl_IsSafeTraffic (by
  intro vs es r h; unfold F_impl_IsSafeTraffic at h; split at h
  · cases h; kernel_rfl
  · cases h)

end Go.SX
