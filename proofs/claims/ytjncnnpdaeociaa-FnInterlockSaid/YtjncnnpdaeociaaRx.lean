/- What functions of the program come to, row by row (made by a program of the workplace). -/
import Derived.Test.YtjncnnpdaeociaaTXh
import Derived.Test.YtjncnnpdaeociaaProg
import Derived.Test.YtjncnnpdaeociaaNw
namespace Go.SX
open Go.Proofs
set_option maxRecDepth 100000

def impl_IsSafeTraffic_q2400_0 (x0 : Int) (x1 : List Int) : Bool :=
  bif isT x0 x1 then safeL x0 x1 else false

def impl_IsSafeTraffic_q2400_1 (x0 : Int) (x1 : List Int) : Bool :=
  allT [!(isT x0 x1 && true) || isT x0 x1]

def F_impl_IsSafeTraffic_q2400 : List SV → List Entry → Option Out
  | [(.one ⟨true, [(.val (.int IntKind.i64 x0)), (.ref 0)]⟩)], [(.row false 2 (CTy.int IntKind.i64) x1)] => some ⟨(.one ⟨false, [(.val (.bool (impl_IsSafeTraffic_q2400_0 x0 x1)))]⟩), [(.row false 2 (CTy.int IntKind.i64) x1)], [], [(impl_IsSafeTraffic_q2400_1 x0 x1)]⟩
  | _, _ => none

def p_impl_IsSafeTraffic_q2400 : PF Try.prog := PF.ofG Try.prog [n_impl_IsTraffic, PF.lend n_impl_IsTraffic, PF.fz n_impl_IsTraffic, n_loop_example_g00916_impl_Traffic_isSafe, PF.lend n_loop_example_g00916_impl_Traffic_isSafe, PF.fz n_loop_example_g00916_impl_Traffic_isSafe] [] hmix 44 Try.f44 Try.func44 (fun c _ => LOk.nil c) F_impl_IsSafeTraffic_q2400 (by
  intro vs es r h; unfold F_impl_IsSafeTraffic_q2400 at h; split at h
  · cases h; kernel_rfl
  · cases h)

def laws_FnInterlock_a0 (x0 : List Int) : Bool :=
  bif
    bif
        ctCode (spec_DrawFirstCollision_0 x0) (spec_DrawFirstCollision_1 x0) (spec_DrawFirstCollision_2 x0) (spec_DrawFirstCollision_3 x0) !=
          spec_FirstCollision_1 (spec_DrawFirstCollision_0 x0) (spec_DrawFirstCollision_1 x0) (spec_DrawFirstCollision_2 x0)
            (spec_DrawFirstCollision_3 x0) then
      true
    else
      ctF (spec_DrawFirstCollision_0 x0) (spec_DrawFirstCollision_1 x0) (spec_DrawFirstCollision_2 x0) (spec_DrawFirstCollision_3 x0) !=
        spec_FirstCollision_0 (spec_DrawFirstCollision_0 x0) (spec_DrawFirstCollision_1 x0) (spec_DrawFirstCollision_2 x0)
          (spec_DrawFirstCollision_3 x0) then
  true
  else
  ctCode (spec_DrawFirstCollision_0 x0) (spec_DrawFirstCollision_1 x0) (spec_DrawFirstCollision_2 x0) (spec_DrawFirstCollision_3 x0) !=
    spec_ControlledRun_1 (spec_DrawFirstCollision_0 x0) (spec_DrawFirstCollision_1 x0) (spec_DrawFirstCollision_2 x0) (spec_DrawFirstCollision_3 x0)

def laws_FnInterlock_a1 (x0 : List Int) : Bool :=
  bif laws_FnInterlock_a0 x0 then true
  else
  !eqT (ctN (spec_DrawFirstCollision_0 x0) (spec_DrawFirstCollision_1 x0) (spec_DrawFirstCollision_2 x0) (spec_DrawFirstCollision_3 x0))
      (spec_ControlledRun_0 (spec_DrawFirstCollision_0 x0) (spec_DrawFirstCollision_1 x0) (spec_DrawFirstCollision_2 x0)
        (spec_DrawFirstCollision_3 x0))
      (ctP (spec_DrawFirstCollision_0 x0) (spec_DrawFirstCollision_1 x0) (spec_DrawFirstCollision_2 x0) (spec_DrawFirstCollision_3 x0))
      (spec_ControlledRun_2 (spec_DrawFirstCollision_0 x0) (spec_DrawFirstCollision_1 x0) (spec_DrawFirstCollision_2 x0)
        (spec_DrawFirstCollision_3 x0))

def laws_FnInterlock_a2 (x0 : List Int) : Bool :=
  ctCode (spec_DrawFirstCollision_0 x0) (spec_DrawFirstCollision_1 x0) (spec_DrawFirstCollision_2 x0) (spec_DrawFirstCollision_3 x0) != (0 : Int)

def laws_FnInterlock_a3 (x0 : List Int) : Bool :=
  bif bif laws_FnInterlock_a2 x0 then true else !impl_IsSafeTraffic_q2400_0 (spec_DrawFirstCollision_0 x0) (spec_DrawFirstCollision_1 x0) then true
  else
  !(inR (spec_DrawFirstCollision_0 x0) (2 : Int) (8 : Int) &&
      (okFs (spec_DrawFirstCollision_0 x0) (spec_DrawFirstCollision_2 x0) && tolF (spec_DrawFirstCollision_2 x0)))

def laws_FnInterlock_a4 (x0 : List Int) : Bool :=
  ctF (spec_DrawFirstCollision_0 x0) (spec_DrawFirstCollision_1 x0) (spec_DrawFirstCollision_2 x0) (spec_DrawFirstCollision_3 x0) == (-1 : Int)

def laws_FnInterlock_a5 (x0 : List Int) : Bool :=
  bif
    bif laws_FnInterlock_a4 x0 then
      impl_IsSafeTraffic_q2400_0
        (ctN (spec_DrawFirstCollision_0 x0) (spec_DrawFirstCollision_1 x0) (spec_DrawFirstCollision_2 x0) (spec_DrawFirstCollision_3 x0))
        (ctP (spec_DrawFirstCollision_0 x0) (spec_DrawFirstCollision_1 x0) (spec_DrawFirstCollision_2 x0) (spec_DrawFirstCollision_3 x0))
    else false then
  rmCode (spec_DrawFirstCollision_0 x0) (spec_DrawFirstCollision_1 x0) (spec_DrawFirstCollision_3 x0) == (0 : Int)
  else false

def laws_FnInterlock_a6 (x0 : List Int) : Bool :=
  leN (List.length (spec_DrawFirstCollision_2 x0)) (9223372036854775807 : Nat)

def laws_FnInterlock_0 (x0 : List Int) : Bool :=
  bif laws_big_0 x0 then true
  else
  bif laws_FnInterlock_a1 x0 then false
  else
    bif laws_FnInterlock_a3 x0 then true
    else
      bif laws_FnInterlock_a5 x0 then
        eqT (rmN (spec_DrawFirstCollision_0 x0) (spec_DrawFirstCollision_1 x0) (spec_DrawFirstCollision_3 x0))
          (ctN (spec_DrawFirstCollision_0 x0) (spec_DrawFirstCollision_1 x0) (spec_DrawFirstCollision_2 x0) (spec_DrawFirstCollision_3 x0))
          (rmP (spec_DrawFirstCollision_0 x0) (spec_DrawFirstCollision_1 x0) (spec_DrawFirstCollision_3 x0))
          (ctP (spec_DrawFirstCollision_0 x0) (spec_DrawFirstCollision_1 x0) (spec_DrawFirstCollision_2 x0) (spec_DrawFirstCollision_3 x0))
      else false

def laws_FnInterlock_1 (x0 : List Int) : Bool :=
  allT
  [laws_big_0 x0 || srcOk (0 : Int) (0 : Int) x0, laws_big_0 x0 || laws_FnInterlock_a6 x0,
    laws_big_0 x0 || spec_FirstCollision_2 (spec_DrawFirstCollision_2 x0), laws_big_0 x0 || laws_FnInterlock_a6 x0,
    laws_big_0 x0 || spec_ControlledRun_3 (spec_DrawFirstCollision_2 x0),
    laws_big_0 x0 ||
      (!(!laws_FnInterlock_a0 x0 && true) ||
        leN
          (List.length
            (ctP (spec_DrawFirstCollision_0 x0) (spec_DrawFirstCollision_1 x0) (spec_DrawFirstCollision_2 x0) (spec_DrawFirstCollision_3 x0)))
          (9223372036854775807 : Nat)),
    laws_big_0 x0 ||
      (laws_FnInterlock_a1 x0 ||
        (!(!laws_FnInterlock_a2 x0 && true) || impl_IsSafeTraffic_q2400_1 (spec_DrawFirstCollision_0 x0) (spec_DrawFirstCollision_1 x0))),
    laws_big_0 x0 ||
      (laws_FnInterlock_a1 x0 ||
        (!((!bif laws_FnInterlock_a2 x0 then true else !impl_IsSafeTraffic_q2400_0 (spec_DrawFirstCollision_0 x0) (spec_DrawFirstCollision_1 x0)) &&
              true) ||
          laws_FnInterlock_a6 x0)),
    laws_big_0 x0 ||
      (laws_FnInterlock_a1 x0 ||
        (laws_FnInterlock_a3 x0 ||
          (!(laws_FnInterlock_a4 x0 && true) ||
            impl_IsSafeTraffic_q2400_1
              (ctN (spec_DrawFirstCollision_0 x0) (spec_DrawFirstCollision_1 x0) (spec_DrawFirstCollision_2 x0) (spec_DrawFirstCollision_3 x0))
              (ctP (spec_DrawFirstCollision_0 x0) (spec_DrawFirstCollision_1 x0) (spec_DrawFirstCollision_2 x0) (spec_DrawFirstCollision_3 x0))))),
    laws_big_0 x0 ||
      (laws_FnInterlock_a1 x0 ||
        (laws_FnInterlock_a3 x0 ||
          (!(laws_FnInterlock_a5 x0 && true) ||
            leN (List.length (rmP (spec_DrawFirstCollision_0 x0) (spec_DrawFirstCollision_1 x0) (spec_DrawFirstCollision_3 x0)))
              (9223372036854775807 : Nat))))]

def F_laws_FnInterlock : List SV → List Entry → Option Out
  | [.one ⟨false, [.ref 0]⟩], [.row false 5 (.int .u8) x0] => some ⟨(.one ⟨false, [(.val (.bool (laws_FnInterlock_0 x0)))]⟩), [(.row false 5 (CTy.int IntKind.u8) x0)], [], [(laws_FnInterlock_1 x0)]⟩
  | _, _ => none

def p_laws_FnInterlock : PF Try.prog := PF.ofG Try.prog [p_laws_big, PF.lend p_laws_big, PF.fz p_laws_big, n_impl_RunMoves, PF.lend n_impl_RunMoves, PF.fz n_impl_RunMoves, n_laws_likeTraffic9, PF.lend n_laws_likeTraffic9, PF.fz n_laws_likeTraffic9, p_spec_FirstCollision, PF.lend p_spec_FirstCollision, PF.fz p_spec_FirstCollision, n_impl_FirstCollision, PF.lend n_impl_FirstCollision, PF.fz n_impl_FirstCollision, p_spec_ControlledRun, PF.lend p_spec_ControlledRun, PF.fz p_spec_ControlledRun, n_impl_ControlledRun, PF.lend n_impl_ControlledRun, PF.fz n_impl_ControlledRun, n_spec_DrawFirstCollision, PF.lend n_spec_DrawFirstCollision, PF.fz n_spec_DrawFirstCollision, n_impl_AreTolerated, PF.lend n_impl_AreTolerated, PF.fz n_impl_AreTolerated, p_impl_IsSafeTraffic_q2400, PF.lend p_impl_IsSafeTraffic_q2400, PF.fz p_impl_IsSafeTraffic_q2400] [] hmix 12 Try.f12 Try.func12 (fun c _ => LOk.nil c) F_laws_FnInterlock (by
  intro vs es r h; unfold F_laws_FnInterlock at h; split at h
  · cases h; kernel_rfl
  · cases h)

end Go.SX
