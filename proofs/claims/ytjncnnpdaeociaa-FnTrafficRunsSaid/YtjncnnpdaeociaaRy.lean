/- What functions of the program come to, row by row (made by a program of the workplace). -/
import Derived.Test.YtjncnnpdaeociaaTXh
import Derived.Test.YtjncnnpdaeociaaProg
import Derived.Test.YtjncnnpdaeociaaNw
import Derived.Test.YtjncnnpdaeociaaRv
namespace Go.SX
open Go.Proofs
set_option maxRecDepth 100000

def laws_FnTrafficRuns_a0 (x0 : List Int) : Bool :=
  rmCode (spec_DrawRunMoves_0 x0) (spec_DrawRunMoves_1 x0) (spec_DrawRunMoves_2 x0) !=
  rmCode (spec_DrawRunMoves_0 x0) (spec_DrawRunMoves_1 x0) (spec_DrawRunMoves_2 x0)

def laws_FnTrafficRuns_a1 (x0 : List Int) : Bool :=
  bif laws_FnTrafficRuns_a0 x0 then true
  else
  !eqT (rmN (spec_DrawRunMoves_0 x0) (spec_DrawRunMoves_1 x0) (spec_DrawRunMoves_2 x0))
      (rmN (spec_DrawRunMoves_0 x0) (spec_DrawRunMoves_1 x0) (spec_DrawRunMoves_2 x0))
      (rmP (spec_DrawRunMoves_0 x0) (spec_DrawRunMoves_1 x0) (spec_DrawRunMoves_2 x0))
      (rmP (spec_DrawRunMoves_0 x0) (spec_DrawRunMoves_1 x0) (spec_DrawRunMoves_2 x0))

def laws_FnTrafficRuns_a2 (x0 : List Int) : Bool :=
  rmCode (spec_DrawRunMoves_0 x0) (spec_DrawRunMoves_1 x0) (spec_DrawRunMoves_2 x0) != (0 : Int)

def laws_FnTrafficRuns_a3 (x0 : List Int) : Int :=
  IntKind.wrap IntKind.i64 ((↑(List.length (spec_DrawRunMoves_2 x0)) : Int) + (1 : Int))

def laws_FnTrafficRuns_a4 (x0 : List Int) : Int :=
  blV (laws_FnTrafficRuns_a3 x0) (0 : Int) (rlS (1001 : Int) x0) x0

def laws_FnTrafficRuns_a5 (x0 : List Int) : List Int :=
  List.drop (Int.toNat (0 : Int)) (List.take (Int.toNat (laws_FnTrafficRuns_a4 x0)) (spec_DrawRunMoves_2 x0))

def laws_FnTrafficRuns_a6 (x0 : List Int) : List Int :=
  List.drop (Int.toNat (laws_FnTrafficRuns_a4 x0)) (List.take (Int.toNat (↑(List.length (spec_DrawRunMoves_2 x0)) : Int)) (spec_DrawRunMoves_2 x0))

def laws_FnTrafficRuns_a7 (x0 : List Int) : Bool :=
  bif rmCode (spec_DrawRunMoves_0 x0) (spec_DrawRunMoves_1 x0) (laws_FnTrafficRuns_a5 x0) == (0 : Int) then
  rmCode (rmN (spec_DrawRunMoves_0 x0) (spec_DrawRunMoves_1 x0) (laws_FnTrafficRuns_a5 x0))
      (rmP (spec_DrawRunMoves_0 x0) (spec_DrawRunMoves_1 x0) (laws_FnTrafficRuns_a5 x0)) (laws_FnTrafficRuns_a6 x0) ==
    (0 : Int)
  else false

def laws_FnTrafficRuns_a8 (x0 : List Int) : List Int :=
  rmP (rmN (spec_DrawRunMoves_0 x0) (spec_DrawRunMoves_1 x0) (laws_FnTrafficRuns_a5 x0))
  (rmP (spec_DrawRunMoves_0 x0) (spec_DrawRunMoves_1 x0) (laws_FnTrafficRuns_a5 x0)) (laws_FnTrafficRuns_a6 x0)

def laws_FnTrafficRuns_a9 (x0 : List Int) : List Int :=
  bif !laws_FnTrafficRuns_a0 x0 && true then rmP (spec_DrawRunMoves_0 x0) (spec_DrawRunMoves_1 x0) (spec_DrawRunMoves_2 x0)
  else rmP (spec_DrawRunMoves_0 x0) (spec_DrawRunMoves_1 x0) (spec_DrawRunMoves_2 x0)

def laws_FnTrafficRuns_a10 (x0 : List Int) : Bool :=
  bif laws_FnTrafficRuns_a7 x0 then
  eqT
    (rmN (rmN (spec_DrawRunMoves_0 x0) (spec_DrawRunMoves_1 x0) (laws_FnTrafficRuns_a5 x0))
      (rmP (spec_DrawRunMoves_0 x0) (spec_DrawRunMoves_1 x0) (laws_FnTrafficRuns_a5 x0)) (laws_FnTrafficRuns_a6 x0))
    (rmN (spec_DrawRunMoves_0 x0) (spec_DrawRunMoves_1 x0) (spec_DrawRunMoves_2 x0)) (laws_FnTrafficRuns_a8 x0) (laws_FnTrafficRuns_a9 x0)
  else false

def laws_FnTrafficRuns_a11 (x0 : List Int) : Bool :=
  bif laws_FnTrafficRuns_a10 x0 then
  impl_IsSafeTraffic_0 (rmN (spec_DrawRunMoves_0 x0) (spec_DrawRunMoves_1 x0) (laws_FnTrafficRuns_a5 x0))
    (rmP (spec_DrawRunMoves_0 x0) (spec_DrawRunMoves_1 x0) (laws_FnTrafficRuns_a5 x0))
  else false

def laws_FnTrafficRuns_a12 (x0 : List Int) : Bool :=
  laws_big_0 x0 || (laws_FnTrafficRuns_a1 x0 || (laws_FnTrafficRuns_a2 x0 || leI (0 : Int) (laws_FnTrafficRuns_a4 x0)))

def laws_FnTrafficRuns_a13 (x0 : List Int) : Bool :=
  laws_big_0 x0 ||
  (laws_FnTrafficRuns_a1 x0 || (laws_FnTrafficRuns_a2 x0 || leI (laws_FnTrafficRuns_a4 x0) (↑(List.length (spec_DrawRunMoves_2 x0)) : Int)))

def laws_FnTrafficRuns_0 (x0 : List Int) : Bool :=
  bif laws_big_0 x0 then true
  else
  bif laws_FnTrafficRuns_a1 x0 then false
  else
    bif laws_FnTrafficRuns_a2 x0 then true
    else
      bif laws_FnTrafficRuns_a11 x0 then
        impl_IsSafeTraffic_0 (rmN (spec_DrawRunMoves_0 x0) (spec_DrawRunMoves_1 x0) (spec_DrawRunMoves_2 x0))
          (bif laws_FnTrafficRuns_a7 x0 && true then laws_FnTrafficRuns_a9 x0 else laws_FnTrafficRuns_a9 x0)
      else false

def laws_FnTrafficRuns_1 (x0 : List Int) : Bool :=
  allT
  [laws_big_0 x0 || srcOk (0 : Int) (0 : Int) x0,
    laws_big_0 x0 ||
      (!(!laws_FnTrafficRuns_a0 x0 && true) ||
        leN (List.length (rmP (spec_DrawRunMoves_0 x0) (spec_DrawRunMoves_1 x0) (spec_DrawRunMoves_2 x0))) (9223372036854775807 : Nat)),
    laws_big_0 x0 || (laws_FnTrafficRuns_a1 x0 || (laws_FnTrafficRuns_a2 x0 || leN (List.length x0) (4096 : Nat))),
    laws_big_0 x0 || (laws_FnTrafficRuns_a1 x0 || (laws_FnTrafficRuns_a2 x0 || leI (1 : Int) (laws_FnTrafficRuns_a3 x0) && leI (0 : Int) (0 : Int))),
    laws_big_0 x0 || (laws_FnTrafficRuns_a1 x0 || (laws_FnTrafficRuns_a2 x0 || leI (0 : Int) (0 : Int))), laws_FnTrafficRuns_a12 x0,
    laws_FnTrafficRuns_a13 x0, laws_FnTrafficRuns_a12 x0, laws_FnTrafficRuns_a13 x0,
    laws_big_0 x0 ||
      (laws_FnTrafficRuns_a1 x0 ||
        (laws_FnTrafficRuns_a2 x0 || leI (↑(List.length (spec_DrawRunMoves_2 x0)) : Int) (↑(List.length (spec_DrawRunMoves_2 x0)) : Int))),
    laws_big_0 x0 ||
      (laws_FnTrafficRuns_a1 x0 ||
        (laws_FnTrafficRuns_a2 x0 ||
          (!(laws_FnTrafficRuns_a7 x0 && true) || leN (List.length (laws_FnTrafficRuns_a8 x0)) (9223372036854775807 : Nat)))),
    laws_big_0 x0 ||
      (laws_FnTrafficRuns_a1 x0 ||
        (laws_FnTrafficRuns_a2 x0 ||
          (!(laws_FnTrafficRuns_a10 x0 && true) ||
            impl_IsSafeTraffic_1 (rmN (spec_DrawRunMoves_0 x0) (spec_DrawRunMoves_1 x0) (laws_FnTrafficRuns_a5 x0))
              (rmP (spec_DrawRunMoves_0 x0) (spec_DrawRunMoves_1 x0) (laws_FnTrafficRuns_a5 x0))))),
    laws_big_0 x0 ||
      (laws_FnTrafficRuns_a1 x0 ||
        (laws_FnTrafficRuns_a2 x0 ||
          (!(laws_FnTrafficRuns_a11 x0 && true) ||
            impl_IsSafeTraffic_1 (rmN (spec_DrawRunMoves_0 x0) (spec_DrawRunMoves_1 x0) (spec_DrawRunMoves_2 x0))
              (bif laws_FnTrafficRuns_a7 x0 && true then laws_FnTrafficRuns_a9 x0 else laws_FnTrafficRuns_a9 x0))))]

def F_laws_FnTrafficRuns : List SV → List Entry → Option Out
  | [.one ⟨false, [.ref 0]⟩], [.row false 5 (.int .u8) x0] => some ⟨(.one ⟨false, [(.val (.bool (laws_FnTrafficRuns_0 x0)))]⟩), [(.row false 5 (CTy.int IntKind.u8) x0)], [], [(laws_FnTrafficRuns_1 x0)]⟩
  | _, _ => none

def p_laws_FnTrafficRuns : PF Try.prog := PF.ofG Try.prog [PF.mark Try.prog, p_laws_big, PF.lend p_laws_big, PF.fz p_laws_big, n_spec_RunMoves, PF.lend n_spec_RunMoves, PF.fz n_spec_RunMoves, n_impl_RunMoves, PF.lend n_impl_RunMoves, PF.fz n_impl_RunMoves, p_impl_IsSafeTraffic, PF.lend p_impl_IsSafeTraffic, PF.fz p_impl_IsSafeTraffic, n_laws_likeTraffic9, PF.lend n_laws_likeTraffic9, PF.fz n_laws_likeTraffic9, n_spec_DrawRunMoves, PF.lend n_spec_DrawRunMoves, PF.fz n_spec_DrawRunMoves, n_laws_roll, PF.lend n_laws_roll, PF.fz n_laws_roll, n_loop_example_g00916_laws_dice_below, PF.lend n_loop_example_g00916_laws_dice_below, PF.fz n_loop_example_g00916_laws_dice_below] [] hmix 8 Try.f8 Try.func8 (fun c _ => LOk.nil c) F_laws_FnTrafficRuns (by
  intro vs es r h; unfold F_laws_FnTrafficRuns at h; split at h
  · cases h; kernel_rfl
  · cases h)

end Go.SX
