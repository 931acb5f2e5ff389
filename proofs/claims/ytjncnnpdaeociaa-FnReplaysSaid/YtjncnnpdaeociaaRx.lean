/- What functions of the program come to, row by row (made by a program of the workplace). -/
import Derived.Test.YtjncnnpdaeociaaTXh
import Derived.Test.YtjncnnpdaeociaaProg
import Derived.Test.YtjncnnpdaeociaaNw
namespace Go.SX
open Go.Proofs
set_option maxRecDepth 100000

def impl_IsSafeTraffic_q2400_0 (x0 : Int) (x1 : List Int) : Bool :=
  bif isT x0 x1 then safeL x0 x1 else false

def impl_IsSafeTraffic_q2400_1 (x0 : Int) (x1 : List Int) : Bool :=
  allT [!(isT x0 x1 && true) || isT x0 x1]

def F_impl_IsSafeTraffic_q2400 : List SV → List Entry → Option Out
  | [(.one ⟨true, [(.val (.int IntKind.i64 x0)), (.ref 0)]⟩)], [(.row false 2 (CTy.int IntKind.i64) x1)] => some ⟨(.one ⟨false, [(.val (.bool (impl_IsSafeTraffic_q2400_0 x0 x1)))]⟩), [(.row false 2 (CTy.int IntKind.i64) x1)], [], [(impl_IsSafeTraffic_q2400_1 x0 x1)]⟩
  | _, _ => none

def p_impl_IsSafeTraffic_q2400 : PF Try.prog := PF.ofG Try.prog [n_impl_IsTraffic, PF.lend n_impl_IsTraffic, PF.fz n_impl_IsTraffic, n_loop_example_g00916_impl_Traffic_isSafe, PF.lend n_loop_example_g00916_impl_Traffic_isSafe, PF.fz n_loop_example_g00916_impl_Traffic_isSafe] [] hmix 44 Try.f44 Try.func44 (fun c _ => LOk.nil c) F_impl_IsSafeTraffic_q2400 (by
  intro vs es r h; unfold F_impl_IsSafeTraffic_q2400 at h; split at h
  · cases h; kernel_rfl
  · cases h)

def laws_FnReplays_a0 (x0 : List Int) : Bool :=
  rvCode (spec_DrawRunReplay_0 x0) (spec_DrawRunReplay_1 x0) (spec_DrawRunReplay_2 x0) !=
  spec_RunReplay_1 (spec_DrawRunReplay_0 x0) (spec_DrawRunReplay_1 x0) (spec_DrawRunReplay_2 x0)

def laws_FnReplays_a1 (x0 : List Int) : Bool :=
  bif laws_FnReplays_a0 x0 then true
  else
  !eqT (rvNn (spec_DrawRunReplay_0 x0) (spec_DrawRunReplay_1 x0) (spec_DrawRunReplay_2 x0))
      (spec_RunReplay_0 (spec_DrawRunReplay_0 x0) (spec_DrawRunReplay_1 x0) (spec_DrawRunReplay_2 x0))
      (rvP (spec_DrawRunReplay_0 x0) (spec_DrawRunReplay_1 x0) (spec_DrawRunReplay_2 x0))
      (spec_RunReplay_2 (spec_DrawRunReplay_0 x0) (spec_DrawRunReplay_1 x0) (spec_DrawRunReplay_2 x0))

def laws_FnReplays_a2 (x0 : List Int) : Bool :=
  bif
    bif
        bif laws_FnReplays_a1 x0 then true
        else
          !eqL (rvS (spec_DrawRunReplay_0 x0) (spec_DrawRunReplay_1 x0) (spec_DrawRunReplay_2 x0))
              (spec_RunReplay_3 (spec_DrawRunReplay_0 x0) (spec_DrawRunReplay_1 x0) (spec_DrawRunReplay_2 x0)) then
      true
    else
      rvCode (spec_DrawRunReplay_0 x0) (spec_DrawRunReplay_1 x0) (spec_DrawRunReplay_2 x0) !=
        spec_UnsafeAfter_1 (spec_DrawRunReplay_0 x0) (spec_DrawRunReplay_1 x0) (spec_DrawRunReplay_2 x0) then
  true
  else
  rvF (spec_DrawRunReplay_0 x0) (spec_DrawRunReplay_1 x0) (spec_DrawRunReplay_2 x0) !=
    spec_UnsafeAfter_0 (spec_DrawRunReplay_0 x0) (spec_DrawRunReplay_1 x0) (spec_DrawRunReplay_2 x0)

def laws_FnReplays_a3 (x0 : List Int) : Bool :=
  rvCode (spec_DrawRunReplay_0 x0) (spec_DrawRunReplay_1 x0) (spec_DrawRunReplay_2 x0) != (0 : Int)

def laws_FnReplays_a4 (x0 : List Int) : List Int :=
  bif !laws_FnReplays_a1 x0 && true then spec_RunReplay_3 (spec_DrawRunReplay_0 x0) (spec_DrawRunReplay_1 x0) (spec_DrawRunReplay_2 x0)
  else spec_RunReplay_3 (spec_DrawRunReplay_0 x0) (spec_DrawRunReplay_1 x0) (spec_DrawRunReplay_2 x0)

def laws_FnReplays_a5 (x0 : List Int) : Bool :=
  bif laws_FnReplays_a3 x0 then true else hasI (3 : Int) (laws_FnReplays_a4 x0)

def laws_FnReplays_a6 (x0 : List Int) : Bool :=
  rvF (spec_DrawRunReplay_0 x0) (spec_DrawRunReplay_1 x0) (spec_DrawRunReplay_2 x0) == (-1 : Int)

def laws_FnReplays_0 (x0 : List Int) : Bool :=
  bif laws_big_0 x0 then true
  else
  bif laws_FnReplays_a2 x0 then false
  else
    bif bif laws_FnReplays_a5 x0 then true else !impl_IsSafeTraffic_q2400_0 (spec_DrawRunReplay_0 x0) (spec_DrawRunReplay_1 x0) then true
    else
      bif laws_FnReplays_a6 x0 then
        impl_IsSafeTraffic_q2400_0 (rvNn (spec_DrawRunReplay_0 x0) (spec_DrawRunReplay_1 x0) (spec_DrawRunReplay_2 x0))
          (rvP (spec_DrawRunReplay_0 x0) (spec_DrawRunReplay_1 x0) (spec_DrawRunReplay_2 x0))
      else false

def laws_FnReplays_1 (x0 : List Int) : Bool :=
  allT
  [laws_big_0 x0 || srcOk (0 : Int) (0 : Int) x0,
    laws_big_0 x0 ||
      (!(!laws_FnReplays_a0 x0 && true) ||
        leN (List.length (rvP (spec_DrawRunReplay_0 x0) (spec_DrawRunReplay_1 x0) (spec_DrawRunReplay_2 x0))) (9223372036854775807 : Nat)),
    laws_big_0 x0 ||
      (!(!laws_FnReplays_a1 x0 && true) ||
        leN (List.length (rvS (spec_DrawRunReplay_0 x0) (spec_DrawRunReplay_1 x0) (spec_DrawRunReplay_2 x0))) (9223372036854775807 : Nat)),
    laws_big_0 x0 ||
      (laws_FnReplays_a2 x0 || (!(!laws_FnReplays_a3 x0 && true) || leN (List.length (laws_FnReplays_a4 x0)) (9223372036854775807 : Nat))),
    laws_big_0 x0 ||
      (laws_FnReplays_a2 x0 || (!(!laws_FnReplays_a5 x0 && true) || impl_IsSafeTraffic_q2400_1 (spec_DrawRunReplay_0 x0) (spec_DrawRunReplay_1 x0))),
    laws_big_0 x0 ||
      (laws_FnReplays_a2 x0 ||
        ((bif laws_FnReplays_a5 x0 then true else !impl_IsSafeTraffic_q2400_0 (spec_DrawRunReplay_0 x0) (spec_DrawRunReplay_1 x0)) ||
          (!(laws_FnReplays_a6 x0 && true) ||
            impl_IsSafeTraffic_q2400_1 (rvNn (spec_DrawRunReplay_0 x0) (spec_DrawRunReplay_1 x0) (spec_DrawRunReplay_2 x0))
              (rvP (spec_DrawRunReplay_0 x0) (spec_DrawRunReplay_1 x0) (spec_DrawRunReplay_2 x0)))))]

def F_laws_FnReplays : List SV → List Entry → Option Out
  | [.one ⟨false, [.ref 0]⟩], [.row false 5 (.int .u8) x0] => some ⟨(.one ⟨false, [(.val (.bool (laws_FnReplays_0 x0)))]⟩), [(.row false 5 (CTy.int IntKind.u8) x0)], [], [(laws_FnReplays_1 x0)]⟩
  | _, _ => none

def p_laws_FnReplays : PF Try.prog := PF.ofG Try.prog [p_laws_big, PF.lend p_laws_big, PF.fz p_laws_big, n_laws_likeInts, PF.lend n_laws_likeInts, PF.fz n_laws_likeInts, n_laws_likeTraffic9, PF.lend n_laws_likeTraffic9, PF.fz n_laws_likeTraffic9, n_laws_hasInt, PF.lend n_laws_hasInt, PF.fz n_laws_hasInt, p_spec_UnsafeAfter, PF.lend p_spec_UnsafeAfter, PF.fz p_spec_UnsafeAfter, n_impl_UnsafeAfter, PF.lend n_impl_UnsafeAfter, PF.fz n_impl_UnsafeAfter, n_spec_DrawRunReplay, PF.lend n_spec_DrawRunReplay, PF.fz n_spec_DrawRunReplay, n_impl_RunReplay, PF.lend n_impl_RunReplay, PF.fz n_impl_RunReplay, p_spec_RunReplay, PF.lend p_spec_RunReplay, PF.fz p_spec_RunReplay, p_impl_IsSafeTraffic_q2400, PF.lend p_impl_IsSafeTraffic_q2400, PF.fz p_impl_IsSafeTraffic_q2400] [] hmix 13 Try.f13 Try.func13 (fun c _ => LOk.nil c) F_laws_FnReplays (by
  intro vs es r h; unfold F_laws_FnReplays at h; split at h
  · cases h; kernel_rfl
  · cases h)

end Go.SX
