/- What functions of the program come to, row by row (made by a program of the workplace). -/
import Derived.Test.YtjhgiognlkmehaaGreatTXh
import Derived.Test.YtjhgiognlkmehaaGreatProg
import Derived.Test.YtjhgiognlkmehaaGreatSo
namespace Go.SX
open Go.Proofs
set_option maxRecDepth 100000

def loop_example_g00916_impl_Traffic_used_a0 (x1 : Int) (x2 : List Int) : Int :=
  Option.getD x2[Int.toNat x1]? (0 : Int)

def loop_example_g00916_impl_Traffic_used_a1 (x1 : Int) (x2 : List Int) : Bool :=
  Int.tmod (loop_example_g00916_impl_Traffic_used_a0 x1 x2) (3 : Int) != (2 : Int)

def loop_example_g00916_impl_Traffic_used_a2 (x0 : Int) (x1 : Int) (x2 : List Int) : List Int :=
  [IntKind.wrap IntKind.i64 (Int.tdiv (loop_example_g00916_impl_Traffic_used_a0 x1 x2) (3 : Int)),
  Int.tmod (IntKind.wrap IntKind.i64 (IntKind.wrap IntKind.i64 (Int.tdiv (loop_example_g00916_impl_Traffic_used_a0 x1 x2) (3 : Int)) + (1 : Int))) x0]

def loop_example_g00916_impl_Traffic_used_0 (x0 : Int) (x1 : Int) (x2 : List Int) : List Int :=
  bif loop_example_g00916_impl_Traffic_used_a1 x1 x2 then
  [IntKind.wrap IntKind.i64 (Int.tdiv (loop_example_g00916_impl_Traffic_used_a0 x1 x2) (3 : Int))]
  else sortL (loop_example_g00916_impl_Traffic_used_a2 x0 x1 x2)

def loop_example_g00916_impl_Traffic_used_1 (x0 : Int) (x1 : Int) (x2 : List Int) : Bool :=
  allT
  [leI (0 : Int) x1, ltI x1 (↑(List.length x2) : Int), ltN (Int.toNat x1) (List.length x2), leI (0 : Int) x1, ltI x1 (↑(List.length x2) : Int),
    ltN (Int.toNat x1) (List.length x2), loop_example_g00916_impl_Traffic_used_a1 x1 x2 || neI x0 (0 : Int),
    loop_example_g00916_impl_Traffic_used_a1 x1 x2 ||
      leN (List.length (loop_example_g00916_impl_Traffic_used_a2 x0 x1 x2)) (4611686018427387903 : Nat)]

def F_loop_example_g00916_impl_Traffic_used : List SV → List Entry → Option Out
  | [.one ⟨true, [.val (.int .i64 x0), .ref 0]⟩, .one ⟨false, [.val (.int .i64 x1)]⟩], [.row false 2 (.int .i64) x2] => some ⟨(.one ⟨false, [(.ref 1)]⟩), [(.row false 2 (CTy.int IntKind.i64) x2)], [(.row true 2 (CTy.int IntKind.i64) (loop_example_g00916_impl_Traffic_used_0 x0 x1 x2))], [(loop_example_g00916_impl_Traffic_used_1 x0 x1 x2)]⟩
  | _, _ => none

def p_loop_example_g00916_impl_Traffic_used : PF Tryz.prog := PF.ofG Tryz.prog [n_slices_Sort_int64_int64, PF.lend n_slices_Sort_int64_int64, PF.fz n_slices_Sort_int64_int64] [] hmix 88 Tryz.f88 Tryz.func88 (fun c _ => LOk.nil c) F_loop_example_g00916_impl_Traffic_used (by
  intro vs es r h; unfold F_loop_example_g00916_impl_Traffic_used at h; split at h
  · cases h; kernel_rfl
  · cases h)

end Go.SX
