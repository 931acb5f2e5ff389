/- What functions of the program come to, row by row (made by a program of the workplace). -/
import Derived.Test.YtofbpbijfhfnoaaTXf
import Derived.Test.YtofbpbijfhfnoaaProg
namespace Go.SX
open Go.Proofs
set_option maxRecDepth 100000
theorem hmix : Try.prog.follows .mixedOrders = true := by kernel_rfl

def spec_l01In_0 (x0 : Int) (x1 : Int) (x2 : Int) : Bool :=
  bif decide (x0 ≥ x1) then decide (x0 ≤ x2) else false

def F_spec_l01In : List SV → List Entry → Option Out
  | [.one ⟨false, [.val (.int .i64 x0)]⟩, .one ⟨false, [.val (.int .i64 x1)]⟩, .one ⟨false, [.val (.int .i64 x2)]⟩], [] => some ⟨(.one ⟨false, [(.val (.bool (spec_l01In_0 x0 x1 x2)))]⟩), [], [], []⟩
  | _, _ => none

def p_spec_l01In : PF Try.prog := PF.ofG Try.prog [] [] hmix 78 Try.f78 Try.func78 (fun c _ => LOk.nil c) F_spec_l01In (by
  intro vs es r h; unfold F_spec_l01In at h; split at h
  · cases h; kernel_rfl
  · cases h)

def spec_l31Is_0 (x0 : Int) (x1 : Int) : Bool :=
  bif bif spec_l01In_0 x0 (0 : Int) (2 : Int) then spec_l01In_0 x1 (0 : Int) (6 : Int) else false then
  bif x0 != (2 : Int) then true else x1 == (0 : Int)
  else false

def F_spec_l31Is : List SV → List Entry → Option Out
  | [.one ⟨true, [.val (.int .i64 x0), .val (.int .i64 x1)]⟩], [] => some ⟨(.one ⟨false, [(.val (.bool (spec_l31Is_0 x0 x1)))]⟩), [], [], []⟩
  | _, _ => none

def p_spec_l31Is : PF Try.prog := PF.ofG Try.prog [p_spec_l01In] [] hmix 76 Try.f76 Try.func76 (fun c _ => LOk.nil c) F_spec_l31Is (by
  intro vs es r h; unfold F_spec_l31Is at h; split at h
  · cases h; kernel_rfl
  · cases h)

def spec_IsPair_0 (x0 : Int) (x1 : Int) (x2 : Int) (x3 : Int) : Bool :=
  bif spec_l31Is_0 x0 x1 then spec_l31Is_0 x2 x3 else false

def F_spec_IsPair : List SV → List Entry → Option Out
  | [.one ⟨true, [.val (.int .i64 x0), .val (.int .i64 x1), .val (.int .i64 x2), .val (.int .i64 x3)]⟩], [] => some ⟨(.one ⟨false, [(.val (.bool (spec_IsPair_0 x0 x1 x2 x3)))]⟩), [], [], []⟩
  | _, _ => none

def p_spec_IsPair : PF Try.prog := PF.ofG Try.prog [p_spec_l31Is] [] hmix 42 Try.f42 Try.func42 (fun c _ => LOk.nil c) F_spec_IsPair (by
  intro vs es r h; unfold F_spec_IsPair at h; split at h
  · cases h; kernel_rfl
  · cases h)

def spec_l31Up_0 (x0 : Int) : Bool :=
  x0 != (2 : Int)

def F_spec_l31Up : List SV → List Entry → Option Out
  | [.one ⟨true, [.val (.int .i64 x0), .val (.int .i64 _x1)]⟩], [] => some ⟨(.one ⟨false, [(.val (.bool (spec_l31Up_0 x0)))]⟩), [], [], []⟩
  | _, _ => none

def p_spec_l31Up : PF Try.prog := PF.ofG Try.prog [] [] hmix 47 Try.f47 Try.func47 (fun c _ => LOk.nil c) F_spec_l31Up (by
  intro vs es r h; unfold F_spec_l31Up at h; split at h
  · cases h; kernel_rfl
  · cases h)

def spec_l31Active_0 (x0 : Int) (x2 : Int) : Int :=
  bif x2 == (1 : Int) then
  IntKind.wrap IntKind.i64 ((bif x0 == (1 : Int) then IntKind.wrap IntKind.i64 ((0 : Int) + (1 : Int)) else (0 : Int)) + (1 : Int))
  else bif x0 == (1 : Int) then IntKind.wrap IntKind.i64 ((0 : Int) + (1 : Int)) else (0 : Int)

def F_spec_l31Active : List SV → List Entry → Option Out
  | [.one ⟨true, [.val (.int .i64 x0), .val (.int .i64 _x1), .val (.int .i64 x2), .val (.int .i64 _x3)]⟩], [] => some ⟨(.one ⟨false, [(.val (.int IntKind.i64 (spec_l31Active_0 x0 x2)))]⟩), [], [], []⟩
  | _, _ => none

def p_spec_l31Active : PF Try.prog := PF.ofG Try.prog [] [] hmix 48 Try.f48 Try.func48 (fun c _ => LOk.nil c) F_spec_l31Active (by
  intro vs es r h; unfold F_spec_l31Active at h; split at h
  · cases h; kernel_rfl
  · cases h)

def spec_l31Tick_0 (x0 : Int) (x1 : Int) (x2 : Int) (x3 : Int) (x4 : Bool) (x5 : Bool) : Int :=
  bif !spec_l31Up_0 x0 then x0
  else
  bif
      bif
          (bif bif spec_l31Up_0 x2 then !x4 else false then (0 : Int)
            else if IntKind.wrap IntKind.i64 (x1 + (1 : Int)) < (6 : Int) then IntKind.wrap IntKind.i64 (x1 + (1 : Int)) else (6 : Int)) ==
            (6 : Int) then
        true
      else
        bif bif bif x5 then bif spec_l31Up_0 x2 then !x4 else false else false then x2 == (0 : Int) else false then decide (x3 ≤ (2 : Int))
        else false then
    (1 : Int)
  else x0

def spec_l31Tick_1 (x0 : Int) (x1 : Int) (x2 : Int) (x4 : Bool) : Int :=
  bif !spec_l31Up_0 x0 then x1
  else
  bif bif spec_l31Up_0 x2 then !x4 else false then (0 : Int)
  else if IntKind.wrap IntKind.i64 (x1 + (1 : Int)) < (6 : Int) then IntKind.wrap IntKind.i64 (x1 + (1 : Int)) else (6 : Int)

def F_spec_l31Tick : List SV → List Entry → Option Out
  | [.one ⟨true, [.val (.int .i64 x0), .val (.int .i64 x1)]⟩, .one ⟨true, [.val (.int .i64 x2), .val (.int .i64 x3)]⟩, .one ⟨false, [.val (.bool x4)]⟩, .one ⟨false, [.val (.bool x5)]⟩], [] => some ⟨(.one ⟨true, [(.val (.int IntKind.i64 (spec_l31Tick_0 x0 x1 x2 x3 x4 x5))), (.val (.int IntKind.i64 (spec_l31Tick_1 x0 x1 x2 x4)))]⟩), [], [], []⟩
  | _, _ => none

def p_spec_l31Tick : PF Try.prog := PF.ofG Try.prog [p_spec_l31Up] [] hmix 79 Try.f79 Try.func79 (fun c _ => LOk.nil c) F_spec_l31Tick (by
  intro vs es r h; unfold F_spec_l31Tick at h; split at h
  · cases h; kernel_rfl
  · cases h)

def spec_l31Step_0 (x0 : Int) (x1 : Int) (x2 : Int) (x3 : Int) (x4 : Int) (x5 : Int) (x7 : Bool) : Int :=
  bif x4 == (0 : Int) then spec_l31Tick_0 x0 x1 x2 x3 x7 true else bif x5 == (1 : Int) then x0 else bif x4 == (1 : Int) then (2 : Int) else (0 : Int)

def spec_l31Step_1 (x0 : Int) (x1 : Int) (x2 : Int) (x4 : Int) (x5 : Int) (x7 : Bool) : Int :=
  bif x4 == (0 : Int) then spec_l31Tick_1 x0 x1 x2 x7 else bif x5 == (1 : Int) then x1 else bif x4 == (1 : Int) then (0 : Int) else (0 : Int)

def spec_l31Step_2 (x0 : Int) (x1 : Int) (x2 : Int) (x3 : Int) (x4 : Int) (x5 : Int) (x6 : Bool) : Int :=
  bif x4 == (0 : Int) then spec_l31Tick_0 x2 x3 x0 x1 x6 false else bif x5 == (1 : Int) then bif x4 == (1 : Int) then (2 : Int) else (0 : Int) else x2

def spec_l31Step_3 (x0 : Int) (x2 : Int) (x3 : Int) (x4 : Int) (x5 : Int) (x6 : Bool) : Int :=
  bif x4 == (0 : Int) then spec_l31Tick_1 x2 x3 x0 x6 else bif x5 == (1 : Int) then bif x4 == (1 : Int) then (0 : Int) else (0 : Int) else x3

def spec_l31Step_4 (x0 : Int) (x2 : Int) (x4 : Int) (x5 : Int) : Bool :=
  bif x4 == (0 : Int) then true else spec_l31Up_0 (bif x5 == (1 : Int) then x2 else x0) == (x4 == (1 : Int))

def F_spec_l31Step : List SV → List Entry → Option Out
  | [.one ⟨true, [.val (.int .i64 x0), .val (.int .i64 x1), .val (.int .i64 x2), .val (.int .i64 x3)]⟩, .one ⟨true, [.val (.int .i64 x4), .val (.int .i64 x5), .val (.bool x6), .val (.bool x7)]⟩], [] => some ⟨(.tup [⟨true, [(.val (.int IntKind.i64 (spec_l31Step_0 x0 x1 x2 x3 x4 x5 x7))), (.val (.int IntKind.i64 (spec_l31Step_1 x0 x1 x2 x4 x5 x7))), (.val (.int IntKind.i64 (spec_l31Step_2 x0 x1 x2 x3 x4 x5 x6))), (.val (.int IntKind.i64 (spec_l31Step_3 x0 x2 x3 x4 x5 x6)))]⟩, ⟨false, [(.val (.bool (spec_l31Step_4 x0 x2 x4 x5)))]⟩]), [], [], []⟩
  | _, _ => none

def p_spec_l31Step : PF Try.prog := PF.ofG Try.prog [p_spec_l31Up, p_spec_l31Tick] [] hmix 49 Try.f49 Try.func49 (fun c _ => LOk.nil c) F_spec_l31Step (by
  intro vs es r h; unfold F_spec_l31Step at h; split at h
  · cases h; kernel_rfl
  · cases h)

def F_laws_toController : List SV → List Entry → Option Out
  | [.one ⟨true, [.val (.int .i64 x0), .val (.int .i64 x1)]⟩], [] => some ⟨(.one ⟨true, [(.val (.int IntKind.i64 x0)), (.val (.int IntKind.i64 x1))]⟩), [], [], []⟩
  | _, _ => none

def p_laws_toController : PF Try.prog := PF.ofG Try.prog [] [] hmix 50 Try.f50 Try.func50 (fun c _ => LOk.nil c) F_laws_toController (by
  intro vs es r h; unfold F_laws_toController at h; split at h
  · cases h; kernel_rfl
  · cases h)

def F_laws_toPair : List SV → List Entry → Option Out
  | [.one ⟨true, [.val (.int .i64 x0), .val (.int .i64 x1), .val (.int .i64 x2), .val (.int .i64 x3)]⟩], [] => some ⟨(.one ⟨true, [(.val (.int IntKind.i64 x0)), (.val (.int IntKind.i64 x1)), (.val (.int IntKind.i64 x2)), (.val (.int IntKind.i64 x3))]⟩), [], [], []⟩
  | _, _ => none

def p_laws_toPair : PF Try.prog := PF.ofG Try.prog [p_laws_toController] [] hmix 13 Try.f13 Try.func13 (fun c _ => LOk.nil c) F_laws_toPair (by
  intro vs es r h; unfold F_laws_toPair at h; split at h
  · cases h; kernel_rfl
  · cases h)

def loop_example_g00916_impl_Controller_isUp_0 (x0 : Int) : Bool :=
  x0 != (2 : Int)

def F_loop_example_g00916_impl_Controller_isUp : List SV → List Entry → Option Out
  | [.one ⟨true, [.val (.int .i64 x0), .val (.int .i64 _x1)]⟩], [] => some ⟨(.one ⟨false, [(.val (.bool (loop_example_g00916_impl_Controller_isUp_0 x0)))]⟩), [], [], []⟩
  | _, _ => none

def p_loop_example_g00916_impl_Controller_isUp : PF Try.prog := PF.ofG Try.prog [] [] hmix 51 Try.f51 Try.func51 (fun c _ => LOk.nil c) F_loop_example_g00916_impl_Controller_isUp (by
  intro vs es r h; unfold F_loop_example_g00916_impl_Controller_isUp at h; split at h
  · cases h; kernel_rfl
  · cases h)

def impl_within_0 (x0 : Int) (x1 : Int) (x2 : Int) : Bool :=
  bif decide (x0 ≥ x1) then decide (x0 ≤ x2) else false

def F_impl_within : List SV → List Entry → Option Out
  | [.one ⟨false, [.val (.int .i64 x0)]⟩, .one ⟨false, [.val (.int .i64 x1)]⟩, .one ⟨false, [.val (.int .i64 x2)]⟩], [] => some ⟨(.one ⟨false, [(.val (.bool (impl_within_0 x0 x1 x2)))]⟩), [], [], []⟩
  | _, _ => none

def p_impl_within : PF Try.prog := PF.ofG Try.prog [] [] hmix 77 Try.f77 Try.func77 (fun c _ => LOk.nil c) F_impl_within (by
  intro vs es r h; unfold F_impl_within at h; split at h
  · cases h; kernel_rfl
  · cases h)

def impl_isController_0 (x0 : Int) (x1 : Int) : Bool :=
  bif bif impl_within_0 x0 (0 : Int) (2 : Int) then impl_within_0 x1 (0 : Int) (6 : Int) else false then
  bif loop_example_g00916_impl_Controller_isUp_0 x0 then true else x1 == (0 : Int)
  else false

def F_impl_isController : List SV → List Entry → Option Out
  | [.one ⟨true, [.val (.int .i64 x0), .val (.int .i64 x1)]⟩], [] => some ⟨(.one ⟨false, [(.val (.bool (impl_isController_0 x0 x1)))]⟩), [], [], []⟩
  | _, _ => none

def p_impl_isController : PF Try.prog := PF.ofG Try.prog [p_loop_example_g00916_impl_Controller_isUp, p_impl_within] [] hmix 75 Try.f75 Try.func75 (fun c _ => LOk.nil c) F_impl_isController (by
  intro vs es r h; unfold F_impl_isController at h; split at h
  · cases h; kernel_rfl
  · cases h)

def impl_IsPair_0 (x0 : Int) (x1 : Int) (x2 : Int) (x3 : Int) : Bool :=
  bif impl_isController_0 x0 x1 then impl_isController_0 x2 x3 else false

def F_impl_IsPair : List SV → List Entry → Option Out
  | [.one ⟨true, [.val (.int .i64 x0), .val (.int .i64 x1), .val (.int .i64 x2), .val (.int .i64 x3)]⟩], [] => some ⟨(.one ⟨false, [(.val (.bool (impl_IsPair_0 x0 x1 x2 x3)))]⟩), [], [], []⟩
  | _, _ => none

def p_impl_IsPair : PF Try.prog := PF.ofG Try.prog [p_impl_isController] [] hmix 41 Try.f41 Try.func41 (fun c _ => LOk.nil c) F_impl_IsPair (by
  intro vs es r h; unfold F_impl_IsPair at h; split at h
  · cases h; kernel_rfl
  · cases h)

def impl_truth_0 (x0 : Bool) : Int :=
  bif x0 then (1 : Int) else (0 : Int)

def F_impl_truth : List SV → List Entry → Option Out
  | [.one ⟨false, [.val (.bool x0)]⟩], [] => some ⟨(.one ⟨false, [(.val (.int IntKind.i64 (impl_truth_0 x0)))]⟩), [], [], []⟩
  | _, _ => none

def p_impl_truth : PF Try.prog := PF.ofG Try.prog [] [] hmix 80 Try.f80 Try.func80 (fun c _ => LOk.nil c) F_impl_truth (by
  intro vs es r h; unfold F_impl_truth at h; split at h
  · cases h; kernel_rfl
  · cases h)

def loop_example_g00916_impl_Pair_active_0 (x0 : Int) (x2 : Int) : Int :=
  IntKind.wrap IntKind.i64 (impl_truth_0 (x0 == (1 : Int)) + impl_truth_0 (x2 == (1 : Int)))

def F_loop_example_g00916_impl_Pair_active : List SV → List Entry → Option Out
  | [.one ⟨true, [.val (.int .i64 x0), .val (.int .i64 _x1), .val (.int .i64 x2), .val (.int .i64 _x3)]⟩], [] => some ⟨(.one ⟨false, [(.val (.int IntKind.i64 (loop_example_g00916_impl_Pair_active_0 x0 x2)))]⟩), [], [], []⟩
  | _, _ => none

def p_loop_example_g00916_impl_Pair_active : PF Try.prog := PF.ofG Try.prog [p_impl_truth] [] hmix 52 Try.f52 Try.func52 (fun c _ => LOk.nil c) F_loop_example_g00916_impl_Pair_active (by
  intro vs es r h; unfold F_loop_example_g00916_impl_Pair_active at h; split at h
  · cases h; kernel_rfl
  · cases h)

def loop_example_g00916_impl_Controller_tick_0 (x0 : Int) (x1 : Int) (x2 : Int) (x3 : Int) (x4 : Bool) (x5 : Bool) : Int :=
  bif !loop_example_g00916_impl_Controller_isUp_0 x0 then x0
  else
  bif
      bif x0 == (0 : Int) then
        bif
            (bif bif loop_example_g00916_impl_Controller_isUp_0 x2 then !x4 else false then (0 : Int)
              else if (6 : Int) < IntKind.wrap IntKind.i64 (x1 + (1 : Int)) then (6 : Int) else IntKind.wrap IntKind.i64 (x1 + (1 : Int))) ==
              (6 : Int) then
          true
        else
          bif bif bif x5 then bif loop_example_g00916_impl_Controller_isUp_0 x2 then !x4 else false else false then x2 == (0 : Int) else false then
            decide (x3 ≤ (2 : Int))
          else false
      else false then
    (1 : Int)
  else bif bif loop_example_g00916_impl_Controller_isUp_0 x2 then !x4 else false then x0 else x0

def loop_example_g00916_impl_Controller_tick_1 (x0 : Int) (x1 : Int) (x2 : Int) (x3 : Int) (x4 : Bool) (x5 : Bool) : Int :=
  bif !loop_example_g00916_impl_Controller_isUp_0 x0 then x1
  else
  bif
      bif x0 == (0 : Int) then
        bif
            (bif bif loop_example_g00916_impl_Controller_isUp_0 x2 then !x4 else false then (0 : Int)
              else if (6 : Int) < IntKind.wrap IntKind.i64 (x1 + (1 : Int)) then (6 : Int) else IntKind.wrap IntKind.i64 (x1 + (1 : Int))) ==
              (6 : Int) then
          true
        else
          bif bif bif x5 then bif loop_example_g00916_impl_Controller_isUp_0 x2 then !x4 else false else false then x2 == (0 : Int) else false then
            decide (x3 ≤ (2 : Int))
          else false
      else false then
    bif bif loop_example_g00916_impl_Controller_isUp_0 x2 then !x4 else false then (0 : Int)
    else if (6 : Int) < IntKind.wrap IntKind.i64 (x1 + (1 : Int)) then (6 : Int) else IntKind.wrap IntKind.i64 (x1 + (1 : Int))
  else
    bif bif loop_example_g00916_impl_Controller_isUp_0 x2 then !x4 else false then (0 : Int)
    else if (6 : Int) < IntKind.wrap IntKind.i64 (x1 + (1 : Int)) then (6 : Int) else IntKind.wrap IntKind.i64 (x1 + (1 : Int))

def F_loop_example_g00916_impl_Controller_tick : List SV → List Entry → Option Out
  | [.one ⟨true, [.val (.int .i64 x0), .val (.int .i64 x1)]⟩, .one ⟨true, [.val (.int .i64 x2), .val (.int .i64 x3)]⟩, .one ⟨false, [.val (.bool x4)]⟩, .one ⟨false, [.val (.bool x5)]⟩], [] => some ⟨(.one ⟨true, [(.val (.int IntKind.i64 (loop_example_g00916_impl_Controller_tick_0 x0 x1 x2 x3 x4 x5))), (.val (.int IntKind.i64 (loop_example_g00916_impl_Controller_tick_1 x0 x1 x2 x3 x4 x5)))]⟩), [], [], []⟩
  | _, _ => none

def p_loop_example_g00916_impl_Controller_tick : PF Try.prog := PF.ofG Try.prog [p_loop_example_g00916_impl_Controller_isUp] [] hmix 81 Try.f81 Try.func81 (fun c _ => LOk.nil c) F_loop_example_g00916_impl_Controller_tick (by
  intro vs es r h; unfold F_loop_example_g00916_impl_Controller_tick at h; split at h
  · cases h; kernel_rfl
  · cases h)

def loop_example_g00916_impl_Pair_step_0 (x0 : Int) (x1 : Int) (x2 : Int) (x3 : Int) (x4 : Int) (x5 : Int) (x7 : Bool) : Int :=
  bif x4 == (0 : Int) then loop_example_g00916_impl_Controller_tick_0 x0 x1 x2 x3 x7 true
  else
  bif x5 == (1 : Int) then
    bif !loop_example_g00916_impl_Controller_isUp_0 x2 == (x4 == (1 : Int)) then (0 : Int) else bif x4 == (1 : Int) then x0 else x0
  else bif !loop_example_g00916_impl_Controller_isUp_0 x0 == (x4 == (1 : Int)) then (0 : Int) else bif x4 == (1 : Int) then (2 : Int) else (0 : Int)

def loop_example_g00916_impl_Pair_step_1 (x0 : Int) (x1 : Int) (x2 : Int) (x3 : Int) (x4 : Int) (x5 : Int) (x7 : Bool) : Int :=
  bif x4 == (0 : Int) then loop_example_g00916_impl_Controller_tick_1 x0 x1 x2 x3 x7 true
  else
  bif x5 == (1 : Int) then
    bif !loop_example_g00916_impl_Controller_isUp_0 x2 == (x4 == (1 : Int)) then (0 : Int) else bif x4 == (1 : Int) then x1 else x1
  else bif !loop_example_g00916_impl_Controller_isUp_0 x0 == (x4 == (1 : Int)) then (0 : Int) else bif x4 == (1 : Int) then (0 : Int) else (0 : Int)

def loop_example_g00916_impl_Pair_step_2 (x0 : Int) (x1 : Int) (x2 : Int) (x3 : Int) (x4 : Int) (x5 : Int) (x6 : Bool) : Int :=
  bif x4 == (0 : Int) then loop_example_g00916_impl_Controller_tick_0 x2 x3 x0 x1 x6 false
  else
  bif x5 == (1 : Int) then
    bif !loop_example_g00916_impl_Controller_isUp_0 x2 == (x4 == (1 : Int)) then (0 : Int) else bif x4 == (1 : Int) then (2 : Int) else (0 : Int)
  else bif !loop_example_g00916_impl_Controller_isUp_0 x0 == (x4 == (1 : Int)) then (0 : Int) else bif x4 == (1 : Int) then x2 else x2

def loop_example_g00916_impl_Pair_step_3 (x0 : Int) (x1 : Int) (x2 : Int) (x3 : Int) (x4 : Int) (x5 : Int) (x6 : Bool) : Int :=
  bif x4 == (0 : Int) then loop_example_g00916_impl_Controller_tick_1 x2 x3 x0 x1 x6 false
  else
  bif x5 == (1 : Int) then
    bif !loop_example_g00916_impl_Controller_isUp_0 x2 == (x4 == (1 : Int)) then (0 : Int) else bif x4 == (1 : Int) then (0 : Int) else (0 : Int)
  else bif !loop_example_g00916_impl_Controller_isUp_0 x0 == (x4 == (1 : Int)) then (0 : Int) else bif x4 == (1 : Int) then x3 else x3

def loop_example_g00916_impl_Pair_step_4 (x0 : Int) (x2 : Int) (x4 : Int) (x5 : Int) : Bool :=
  bif x4 == (0 : Int) then true
  else
  bif x5 == (1 : Int) then bif !loop_example_g00916_impl_Controller_isUp_0 x2 == (x4 == (1 : Int)) then false else true
  else bif !loop_example_g00916_impl_Controller_isUp_0 x0 == (x4 == (1 : Int)) then false else true

def F_loop_example_g00916_impl_Pair_step : List SV → List Entry → Option Out
  | [.one ⟨true, [.val (.int .i64 x0), .val (.int .i64 x1), .val (.int .i64 x2), .val (.int .i64 x3)]⟩, .one ⟨true, [.val (.int .i64 x4), .val (.int .i64 x5), .val (.bool x6), .val (.bool x7)]⟩], [] => some ⟨(.tup [⟨true, [(.val (.int IntKind.i64 (loop_example_g00916_impl_Pair_step_0 x0 x1 x2 x3 x4 x5 x7))), (.val (.int IntKind.i64 (loop_example_g00916_impl_Pair_step_1 x0 x1 x2 x3 x4 x5 x7))), (.val (.int IntKind.i64 (loop_example_g00916_impl_Pair_step_2 x0 x1 x2 x3 x4 x5 x6))), (.val (.int IntKind.i64 (loop_example_g00916_impl_Pair_step_3 x0 x1 x2 x3 x4 x5 x6)))]⟩, ⟨false, [(.val (.bool (loop_example_g00916_impl_Pair_step_4 x0 x2 x4 x5)))]⟩]), [], [], []⟩
  | _, _ => none

def p_loop_example_g00916_impl_Pair_step : PF Try.prog := PF.ofG Try.prog [p_loop_example_g00916_impl_Controller_isUp, p_loop_example_g00916_impl_Controller_tick] [] hmix 53 Try.f53 Try.func53 (fun c _ => LOk.nil c) F_loop_example_g00916_impl_Pair_step (by
  intro vs es r h; unfold F_loop_example_g00916_impl_Pair_step at h; split at h
  · cases h; kernel_rfl
  · cases h)

def spec_IsPairEvent_0 (x0 : Int) (x1 : Int) (x2 : Bool) (x3 : Bool) : Bool :=
  bif x0 == (0 : Int) then x1 == (0 : Int)
  else
  bif bif x0 == (1 : Int) then x0 == (1 : Int) else x0 == (2 : Int) then
    bif bif spec_l01In_0 x1 (0 : Int) (1 : Int) then !x2 else false then !x3 else false
  else false

def F_spec_IsPairEvent : List SV → List Entry → Option Out
  | [.one ⟨true, [.val (.int .i64 x0), .val (.int .i64 x1), .val (.bool x2), .val (.bool x3)]⟩], [] => some ⟨(.one ⟨false, [(.val (.bool (spec_IsPairEvent_0 x0 x1 x2 x3)))]⟩), [], [], []⟩
  | _, _ => none

def p_spec_IsPairEvent : PF Try.prog := PF.ofG Try.prog [p_spec_l01In] [] hmix 44 Try.f44 Try.func44 (fun c _ => LOk.nil c) F_spec_IsPairEvent (by
  intro vs es r h; unfold F_spec_IsPairEvent at h; split at h
  · cases h; kernel_rfl
  · cases h)

abbrev X_spec_l31Run_l0 := Int × Bool × List (Int × (Int × (Bool × Bool)))

def spec_l31Run_l0_0 (y0 : Int) (y2 : List (Int × (Int × (Bool × Bool)))) : Bool :=
  decide (y0 < (↑(List.length y2) : Int))

def spec_l31Run_l0_1 (y0 : Int) (y1 : Bool) : Bool :=
  !(y1 && true) || decide ((0 : Int) ≤ y0)

def spec_l31Run_l0_2 (y0 : Int) (y1 : Bool) (y2 : List (Int × (Int × (Bool × Bool)))) : Bool :=
  !(y1 && true) || decide (y0 < (↑(List.length y2) : Int))

def spec_l31Run_l0_3 (y0 : Int) (y1 : Bool) (y2 : List (Int × (Int × (Bool × Bool)))) : Bool :=
  !(y1 && true) || decide (Int.toNat y0 < List.length y2)

def spec_l31Run_l0_4 (y0 : Int) : Int :=
  IntKind.wrap IntKind.i64 (y0 + (1 : Int))

def spec_l31Run_l0_5 (y0 : Int) (y1 : Bool) (y2 : List (Int × (Int × (Bool × Bool)))) : Bool :=
  bif y1 then
  spec_IsPairEvent_0 (Prod.fst (Option.getD y2[Int.toNat y0]? ((0 : Int), (0 : Int), false, false)))
    (Prod.fst (Prod.snd (Option.getD y2[Int.toNat y0]? ((0 : Int), (0 : Int), false, false))))
    (Prod.fst (Prod.snd (Prod.snd (Option.getD y2[Int.toNat y0]? ((0 : Int), (0 : Int), false, false)))))
    (Prod.snd (Prod.snd (Prod.snd (Option.getD y2[Int.toNat y0]? ((0 : Int), (0 : Int), false, false)))))
  else false

def JL_spec_l31Run_l0 : X_spec_l31Run_l0 → List (Nat × SV)
  | (y0, y1, _) => [(8, (.one ⟨false, [(.val (.int IntKind.i64 y0))]⟩)), (1, (.one ⟨false, [(.ref 0)]⟩)), (7, (.one ⟨false, [(.val (.bool y1))]⟩))]

def JE_spec_l31Run_l0 : X_spec_l31Run_l0 → List (Nat × Entry)
  | (_, _, y2) => [(0, (.row false 48 (CTy.pair (CTy.int IntKind.i64) (CTy.pair (CTy.int IntKind.i64) (CTy.pair CTy.bool CTy.bool))) y2))]

def XL_spec_l31Run_l0 : Nat → X_spec_l31Run_l0 → List (Nat × SV)
  | _, (_, y1, _) => [(7, (.one ⟨false, [(.val (.bool y1))]⟩))]

def XE_spec_l31Run_l0 : Nat → X_spec_l31Run_l0 → List (Nat × Entry)
  | _, (_, _, y2) => [(0, (.row false 48 (CTy.pair (CTy.int IntKind.i64) (CTy.pair (CTy.int IntKind.i64) (CTy.pair CTy.bool CTy.bool))) y2))]

def lt_spec_l31Run_l0 : X_spec_l31Run_l0 → LT X_spec_l31Run_l0
  | (y0, y1, y2) => .ite (spec_l31Run_l0_0 y0 y2) (.need [(spec_l31Run_l0_1 y0 y1), (spec_l31Run_l0_2 y0 y1 y2), (spec_l31Run_l0_3 y0 y1 y2)] (.nrm ((spec_l31Run_l0_4 y0), (spec_l31Run_l0_5 y0 y1 y2), y2) [(0, 0)])) (.ext 0 [(0, 0)])

def rd_spec_l31Run_l0 (s : St) : Option X_spec_l31Run_l0 :=
  (match s.look 8 with
  | some ⟨none, (.one ⟨false, [(.val (.int IntKind.i64 y0))]⟩)⟩ =>
  (match s.look 1 with
  | some ⟨none, (.one ⟨false, [(.ref 0)]⟩)⟩ =>
  (match s.look 7 with
  | some ⟨none, (.one ⟨false, [(.val (.bool y1))]⟩)⟩ =>
  (match s.ent 0 with
  | some (.row false 48 (CTy.pair (CTy.int IntKind.i64) (CTy.pair (CTy.int IntKind.i64) (CTy.pair CTy.bool CTy.bool))) y2) =>
  some (y0, y1, y2)
  | _ => none)
  | _ => none)
  | _ => none)
  | _ => none)

def lp_spec_l31Run_l0 : Lp X_spec_l31Run_l0 where
  h := ⟨[19, 20, 21, 22, 25, 26, 27, 28, 29, 30, 31, 32, 7, 23, 24, 8], [0], [], []⟩
  JL := JL_spec_l31Run_l0
  JE := JE_spec_l31Run_l0
  XL := XL_spec_l31Run_l0
  XE := XE_spec_l31Run_l0
  q := fun j => match j with | _ => .exit 0
  tags := [0]
  lt := lt_spec_l31Run_l0
  fuel := fun (y0, _, y2) => y0.natAbs + y2.length
  fix := fun (_, _, y2) (y0, y1, _) => (y0, y1, y2)
  σ := [(0, 0)]
  rd := rd_spec_l31Run_l0

theorem lpok_spec_l31Run_l0 : LoopOk Try.prog (fun k => Nat.blt k Try.f71.ntmps) lp_spec_l31Run_l0.F (loopAt Try.f71 0) := by
  refine Lp.ok (tbl := [p_spec_IsPair, p_spec_IsPairEvent, p_spec_l31Active, p_spec_l31Step]) (lf := []) hmix lp_spec_l31Run_l0 (by kernel_rfl) (LOk.nil _) (fun _ => rfl) (fun _ _ => rfl) ?_ ?_ ?_ ?_ (fun _ => rfl) ?_
  · intro x; obtain ⟨y0, y1, y2⟩ := x; kernel_rfl
  · intro x; obtain ⟨y0, y1, y2⟩ := x; kernel_rfl
  · intro s x h
    have h : rd_spec_l31Run_l0 s = some x := h
    unfold rd_spec_l31Run_l0 at h
    repeat' split at h
    all_goals cases h
    exact ⟨absS_cons (by assumption) rfl (absS_cons (by assumption) rfl (absS_cons (by assumption) rfl (rfl))), absE_cons rfl (by assumption) rfl (rfl)⟩
  · intro x; obtain ⟨y0, y1, y2⟩ := x; kernel_rfl
  · intro x z; obtain ⟨y0, y1, y2⟩ := x; exact (And.intro rfl trivial)

abbrev X_spec_l31Run_l1 := Int × Int × List (Int × (Int × (Bool × Bool))) × Int × Int × Int × Int × Int × Int × Int × Int

def spec_l31Run_l1_0 (y0 : Int) (y2 : List (Int × (Int × (Bool × Bool)))) : Bool :=
  decide (y0 < (↑(List.length y2) : Int))

def spec_l31Run_l1_1 (y0 : Int) : Bool :=
  decide ((0 : Int) ≤ y0)

def spec_l31Run_l1_2 (y0 : Int) (y2 : List (Int × (Int × (Bool × Bool)))) : Bool :=
  decide (Int.toNat y0 < List.length y2)

def spec_l31Run_l1_3 (y0 : Int) (y2 : List (Int × (Int × (Bool × Bool)))) (y3 : Int) (y5 : Int) : Bool :=
  !spec_l31Step_4 y3 y5 (Prod.fst (Option.getD y2[Int.toNat y0]? ((0 : Int), (0 : Int), false, false)))
    (Prod.fst (Prod.snd (Option.getD y2[Int.toNat y0]? ((0 : Int), (0 : Int), false, false))))

def spec_l31Run_l1_4 (y0 : Int) : Int :=
  IntKind.wrap IntKind.i64 (y0 + (1 : Int))

def spec_l31Run_l1_5 (y0 : Int) (y1 : Int) (y2 : List (Int × (Int × (Bool × Bool)))) (y3 : Int) (y4 : Int) (y5 : Int) (y6 : Int) : Int :=
  if
    spec_l31Active_0
        (spec_l31Step_0 y3 y4 y5 y6 (Prod.fst (Option.getD y2[Int.toNat y0]? ((0 : Int), (0 : Int), false, false)))
          (Prod.fst (Prod.snd (Option.getD y2[Int.toNat y0]? ((0 : Int), (0 : Int), false, false))))
          (Prod.snd (Prod.snd (Prod.snd (Option.getD y2[Int.toNat y0]? ((0 : Int), (0 : Int), false, false))))))
        (spec_l31Step_2 y3 y4 y5 y6 (Prod.fst (Option.getD y2[Int.toNat y0]? ((0 : Int), (0 : Int), false, false)))
          (Prod.fst (Prod.snd (Option.getD y2[Int.toNat y0]? ((0 : Int), (0 : Int), false, false))))
          (Prod.fst (Prod.snd (Prod.snd (Option.getD y2[Int.toNat y0]? ((0 : Int), (0 : Int), false, false)))))) >
      y1 then
  spec_l31Active_0
    (spec_l31Step_0 y3 y4 y5 y6 (Prod.fst (Option.getD y2[Int.toNat y0]? ((0 : Int), (0 : Int), false, false)))
      (Prod.fst (Prod.snd (Option.getD y2[Int.toNat y0]? ((0 : Int), (0 : Int), false, false))))
      (Prod.snd (Prod.snd (Prod.snd (Option.getD y2[Int.toNat y0]? ((0 : Int), (0 : Int), false, false))))))
    (spec_l31Step_2 y3 y4 y5 y6 (Prod.fst (Option.getD y2[Int.toNat y0]? ((0 : Int), (0 : Int), false, false)))
      (Prod.fst (Prod.snd (Option.getD y2[Int.toNat y0]? ((0 : Int), (0 : Int), false, false))))
      (Prod.fst (Prod.snd (Prod.snd (Option.getD y2[Int.toNat y0]? ((0 : Int), (0 : Int), false, false))))))
  else y1

def spec_l31Run_l1_6 (y0 : Int) (y2 : List (Int × (Int × (Bool × Bool)))) (y3 : Int) (y4 : Int) (y5 : Int) (y6 : Int) : Int :=
  spec_l31Step_0 y3 y4 y5 y6 (Prod.fst (Option.getD y2[Int.toNat y0]? ((0 : Int), (0 : Int), false, false)))
  (Prod.fst (Prod.snd (Option.getD y2[Int.toNat y0]? ((0 : Int), (0 : Int), false, false))))
  (Prod.snd (Prod.snd (Prod.snd (Option.getD y2[Int.toNat y0]? ((0 : Int), (0 : Int), false, false)))))

def spec_l31Run_l1_7 (y0 : Int) (y2 : List (Int × (Int × (Bool × Bool)))) (y3 : Int) (y4 : Int) (y5 : Int) : Int :=
  spec_l31Step_1 y3 y4 y5 (Prod.fst (Option.getD y2[Int.toNat y0]? ((0 : Int), (0 : Int), false, false)))
  (Prod.fst (Prod.snd (Option.getD y2[Int.toNat y0]? ((0 : Int), (0 : Int), false, false))))
  (Prod.snd (Prod.snd (Prod.snd (Option.getD y2[Int.toNat y0]? ((0 : Int), (0 : Int), false, false)))))

def spec_l31Run_l1_8 (y0 : Int) (y2 : List (Int × (Int × (Bool × Bool)))) (y3 : Int) (y4 : Int) (y5 : Int) (y6 : Int) : Int :=
  spec_l31Step_2 y3 y4 y5 y6 (Prod.fst (Option.getD y2[Int.toNat y0]? ((0 : Int), (0 : Int), false, false)))
  (Prod.fst (Prod.snd (Option.getD y2[Int.toNat y0]? ((0 : Int), (0 : Int), false, false))))
  (Prod.fst (Prod.snd (Prod.snd (Option.getD y2[Int.toNat y0]? ((0 : Int), (0 : Int), false, false)))))

def spec_l31Run_l1_9 (y0 : Int) (y2 : List (Int × (Int × (Bool × Bool)))) (y3 : Int) (y5 : Int) (y6 : Int) : Int :=
  spec_l31Step_3 y3 y5 y6 (Prod.fst (Option.getD y2[Int.toNat y0]? ((0 : Int), (0 : Int), false, false)))
  (Prod.fst (Prod.snd (Option.getD y2[Int.toNat y0]? ((0 : Int), (0 : Int), false, false))))
  (Prod.fst (Prod.snd (Prod.snd (Option.getD y2[Int.toNat y0]? ((0 : Int), (0 : Int), false, false)))))

def JL_spec_l31Run_l1 : X_spec_l31Run_l1 → List (Nat × SV)
  | (y0, y1, _, _, _, _, _, _, _, _, _) => [(10, (.one ⟨false, [(.val (.int IntKind.i64 y0))]⟩)), (1, (.one ⟨false, [(.ref 0)]⟩)), (2, (.one ⟨false, [(.ptr 1 0)]⟩)), (4, (.one ⟨false, [(.ptr 2 0)]⟩)), (9, (.one ⟨false, [(.val (.int IntKind.i64 y1))]⟩))]

def JE_spec_l31Run_l1 : X_spec_l31Run_l1 → List (Nat × Entry)
  | (_, _, y2, y3, y4, y5, y6, y7, y8, y9, y10) => [(0, (.row false 48 (CTy.pair (CTy.int IntKind.i64) (CTy.pair (CTy.int IntKind.i64) (CTy.pair CTy.bool CTy.bool))) y2)), (1, (.box 30 [(.val (.int IntKind.i64 y3)), (.val (.int IntKind.i64 y4)), (.val (.int IntKind.i64 y5)), (.val (.int IntKind.i64 y6))])), (2, (.box 30 [(.val (.int IntKind.i64 y7)), (.val (.int IntKind.i64 y8)), (.val (.int IntKind.i64 y9)), (.val (.int IntKind.i64 y10))]))]

def XL_spec_l31Run_l1 : Nat → X_spec_l31Run_l1 → List (Nat × SV)
  | 0, (_, _, _, _, _, _, _, _, _, _, _) => [(5, (.one ⟨false, [(.val (.int IntKind.i64 (0 : Int)))]⟩)), (6, (.one ⟨false, [(.val (.int IntKind.i64 (5 : Int)))]⟩))]
  | _, (_, y1, _, _, _, _, _, _, _, _, _) => [(9, (.one ⟨false, [(.val (.int IntKind.i64 y1))]⟩))]

def XE_spec_l31Run_l1 : Nat → X_spec_l31Run_l1 → List (Nat × Entry)
  | 0, (_, _, y2, y3, y4, y5, y6, _, _, _, _) => [(0, (.row false 48 (CTy.pair (CTy.int IntKind.i64) (CTy.pair (CTy.int IntKind.i64) (CTy.pair CTy.bool CTy.bool))) y2)), (1, (.box 30 [(.val (.int IntKind.i64 y3)), (.val (.int IntKind.i64 y4)), (.val (.int IntKind.i64 y5)), (.val (.int IntKind.i64 y6))])), (2, (.box 30 [(.val (.int IntKind.i64 (0 : Int))), (.val (.int IntKind.i64 (0 : Int))), (.val (.int IntKind.i64 (0 : Int))), (.val (.int IntKind.i64 (0 : Int)))]))]
  | _, (_, _, y2, y3, y4, y5, y6, y7, y8, y9, y10) => [(0, (.row false 48 (CTy.pair (CTy.int IntKind.i64) (CTy.pair (CTy.int IntKind.i64) (CTy.pair CTy.bool CTy.bool))) y2)), (1, (.box 30 [(.val (.int IntKind.i64 y3)), (.val (.int IntKind.i64 y4)), (.val (.int IntKind.i64 y5)), (.val (.int IntKind.i64 y6))])), (2, (.box 30 [(.val (.int IntKind.i64 y7)), (.val (.int IntKind.i64 y8)), (.val (.int IntKind.i64 y9)), (.val (.int IntKind.i64 y10))]))]

def lt_spec_l31Run_l1 : X_spec_l31Run_l1 → LT X_spec_l31Run_l1
  | (y0, y1, y2, y3, y4, y5, y6, y7, y8, y9, y10) => .ite (spec_l31Run_l1_0 y0 y2) (.need [(spec_l31Run_l1_1 y0), (spec_l31Run_l1_0 y0 y2), (spec_l31Run_l1_2 y0 y2)] (.ite (spec_l31Run_l1_3 y0 y2 y3 y5) (.ext 0 [(0, 0), (1, 1), (2, 2)]) (.nrm ((spec_l31Run_l1_4 y0), (spec_l31Run_l1_5 y0 y1 y2 y3 y4 y5 y6), y2, (spec_l31Run_l1_6 y0 y2 y3 y4 y5 y6), (spec_l31Run_l1_7 y0 y2 y3 y4 y5), (spec_l31Run_l1_8 y0 y2 y3 y4 y5 y6), (spec_l31Run_l1_9 y0 y2 y3 y5 y6), y7, y8, y9, y10) [(0, 0), (1, 1), (2, 2)]))) (.ext 1 [(0, 0), (1, 1), (2, 2)])

def rd_spec_l31Run_l1 (s : St) : Option X_spec_l31Run_l1 :=
  (match s.look 10 with
  | some ⟨none, (.one ⟨false, [(.val (.int IntKind.i64 y0))]⟩)⟩ =>
  (match s.look 1 with
  | some ⟨none, (.one ⟨false, [(.ref 0)]⟩)⟩ =>
  (match s.look 2 with
  | some ⟨none, (.one ⟨false, [(.ptr 128 0)]⟩)⟩ =>
  (match s.look 4 with
  | some ⟨none, (.one ⟨false, [(.ptr 192 0)]⟩)⟩ =>
  (match s.look 9 with
  | some ⟨none, (.one ⟨false, [(.val (.int IntKind.i64 y1))]⟩)⟩ =>
  (match s.ent 0 with
  | some (.row false 48 (CTy.pair (CTy.int IntKind.i64) (CTy.pair (CTy.int IntKind.i64) (CTy.pair CTy.bool CTy.bool))) y2) =>
  (match s.ent 128 with
  | some (.box 30 [(.val (.int IntKind.i64 y3)), (.val (.int IntKind.i64 y4)), (.val (.int IntKind.i64 y5)), (.val (.int IntKind.i64 y6))]) =>
  (match s.ent 192 with
  | some (.box 30 [(.val (.int IntKind.i64 y7)), (.val (.int IntKind.i64 y8)), (.val (.int IntKind.i64 y9)), (.val (.int IntKind.i64 y10))]) =>
  some (y0, y1, y2, y3, y4, y5, y6, y7, y8, y9, y10)
  | _ => none)
  | _ => none)
  | _ => none)
  | _ => none)
  | _ => none)
  | _ => none)
  | _ => none)
  | _ => none)

def lp_spec_l31Run_l1 : Lp X_spec_l31Run_l1 where
  h := ⟨[38, 39, 40, 41, 45, 46, 47, 48, 49, 50, 44, 51, 52, 11, 12, 53, 54, 55, 5, 6, 56, 57, 58, 59, 60, 9, 42, 43, 10], [0, 1, 2], [], []⟩
  JL := JL_spec_l31Run_l1
  JE := JE_spec_l31Run_l1
  XL := XL_spec_l31Run_l1
  XE := XE_spec_l31Run_l1
  q := fun j => match j with | 0 => .ret | _ => .exit 2
  tags := [0, 1]
  lt := lt_spec_l31Run_l1
  fuel := fun (y0, y1, y2, y3, y4, y5, y6, y7, y8, y9, y10) => y0.natAbs + y1.natAbs + y2.length + y3.natAbs + y4.natAbs + y5.natAbs + y6.natAbs + y7.natAbs + y8.natAbs + y9.natAbs + y10.natAbs
  fix := fun (_, _, y2, _, _, _, _, y7, y8, y9, y10) (y0, y1, _, y3, y4, y5, y6, _, _, _, _) => (y0, y1, y2, y3, y4, y5, y6, y7, y8, y9, y10)
  σ := [(0, 0), (1, 128), (2, 192)]
  rd := rd_spec_l31Run_l1

theorem lpok_spec_l31Run_l1 : LoopOk Try.prog (fun k => Nat.blt k Try.f71.ntmps) lp_spec_l31Run_l1.F (loopAt Try.f71 1) := by
  refine Lp.ok (tbl := [p_spec_IsPair, p_spec_IsPairEvent, p_spec_l31Active, p_spec_l31Step]) (lf := []) hmix lp_spec_l31Run_l1 (by kernel_rfl) (LOk.nil _) (fun _ => rfl) (fun j _ => by unfold lp_spec_l31Run_l1; match j with | 0 => rfl | _ + 1 => rfl) ?_ ?_ ?_ ?_ (fun _ => rfl) ?_
  · intro x; obtain ⟨y0, y1, y2, y3, y4, y5, y6, y7, y8, y9, y10⟩ := x; kernel_rfl
  · intro x; obtain ⟨y0, y1, y2, y3, y4, y5, y6, y7, y8, y9, y10⟩ := x; kernel_rfl
  · intro s x h
    have h : rd_spec_l31Run_l1 s = some x := h
    unfold rd_spec_l31Run_l1 at h
    repeat' split at h
    all_goals cases h
    exact ⟨absS_cons (by assumption) rfl (absS_cons (by assumption) rfl (absS_cons (by assumption) rfl (absS_cons (by assumption) rfl (absS_cons (by assumption) rfl (rfl))))), absE_cons rfl (by assumption) rfl (absE_cons rfl (by assumption) rfl (absE_cons rfl (by assumption) rfl (rfl)))⟩
  · intro x; obtain ⟨y0, y1, y2, y3, y4, y5, y6, y7, y8, y9, y10⟩ := x; kernel_rfl
  · intro x z; obtain ⟨y0, y1, y2, y3, y4, y5, y6, y7, y8, y9, y10⟩ := x; exact (And.intro (And.intro trivial rfl) trivial)

def spec_l31Run_0 (x0 : Int) (x1 : Int) (x2 : Int) (x3 : Int) (x4 : List (Int × Int × Bool × Bool)) : Int :=
  bif decide ((↑(List.length x4) : Int) > (200 : Int)) then (0 : Int)
  else
  bif !Prod.fst (Prod.snd (Prod.snd (Lp.res lp_spec_l31Run_l0 ((0 : Int), spec_IsPair_0 x0 x1 x2 x3, x4)))) then (0 : Int)
  else
    bif
        Nat.beq
          (Prod.fst (Lp.res lp_spec_l31Run_l1 ((0 : Int), spec_l31Active_0 x0 x2, x4, x0, x1, x2, x3, (0 : Int), (0 : Int), (0 : Int), (0 : Int))))
          (0 : Nat) then
      (0 : Int)
    else
      Prod.fst
        (Prod.snd
          (Prod.snd
            (Prod.snd
              (Prod.snd
                (Lp.res lp_spec_l31Run_l1 ((0 : Int), spec_l31Active_0 x0 x2, x4, x0, x1, x2, x3, (0 : Int), (0 : Int), (0 : Int), (0 : Int)))))))

def spec_l31Run_1 (x0 : Int) (x1 : Int) (x2 : Int) (x3 : Int) (x4 : List (Int × Int × Bool × Bool)) : Int :=
  bif decide ((↑(List.length x4) : Int) > (200 : Int)) then (0 : Int)
  else
  bif !Prod.fst (Prod.snd (Prod.snd (Lp.res lp_spec_l31Run_l0 ((0 : Int), spec_IsPair_0 x0 x1 x2 x3, x4)))) then (0 : Int)
  else
    bif
        Nat.beq
          (Prod.fst (Lp.res lp_spec_l31Run_l1 ((0 : Int), spec_l31Active_0 x0 x2, x4, x0, x1, x2, x3, (0 : Int), (0 : Int), (0 : Int), (0 : Int))))
          (0 : Nat) then
      (0 : Int)
    else
      Prod.fst
        (Prod.snd
          (Prod.snd
            (Prod.snd
              (Prod.snd
                (Prod.snd
                  (Lp.res lp_spec_l31Run_l1 ((0 : Int), spec_l31Active_0 x0 x2, x4, x0, x1, x2, x3, (0 : Int), (0 : Int), (0 : Int), (0 : Int))))))))

def spec_l31Run_2 (x0 : Int) (x1 : Int) (x2 : Int) (x3 : Int) (x4 : List (Int × Int × Bool × Bool)) : Int :=
  bif decide ((↑(List.length x4) : Int) > (200 : Int)) then (0 : Int)
  else
  bif !Prod.fst (Prod.snd (Prod.snd (Lp.res lp_spec_l31Run_l0 ((0 : Int), spec_IsPair_0 x0 x1 x2 x3, x4)))) then (0 : Int)
  else
    bif
        Nat.beq
          (Prod.fst (Lp.res lp_spec_l31Run_l1 ((0 : Int), spec_l31Active_0 x0 x2, x4, x0, x1, x2, x3, (0 : Int), (0 : Int), (0 : Int), (0 : Int))))
          (0 : Nat) then
      (0 : Int)
    else
      Prod.fst
        (Prod.snd
          (Prod.snd
            (Prod.snd
              (Prod.snd
                (Prod.snd
                  (Prod.snd
                    (Lp.res lp_spec_l31Run_l1
                      ((0 : Int), spec_l31Active_0 x0 x2, x4, x0, x1, x2, x3, (0 : Int), (0 : Int), (0 : Int), (0 : Int)))))))))

def spec_l31Run_3 (x0 : Int) (x1 : Int) (x2 : Int) (x3 : Int) (x4 : List (Int × Int × Bool × Bool)) : Int :=
  bif decide ((↑(List.length x4) : Int) > (200 : Int)) then (0 : Int)
  else
  bif !Prod.fst (Prod.snd (Prod.snd (Lp.res lp_spec_l31Run_l0 ((0 : Int), spec_IsPair_0 x0 x1 x2 x3, x4)))) then (0 : Int)
  else
    bif
        Nat.beq
          (Prod.fst (Lp.res lp_spec_l31Run_l1 ((0 : Int), spec_l31Active_0 x0 x2, x4, x0, x1, x2, x3, (0 : Int), (0 : Int), (0 : Int), (0 : Int))))
          (0 : Nat) then
      (0 : Int)
    else
      Prod.fst
        (Prod.snd
          (Prod.snd
            (Prod.snd
              (Prod.snd
                (Prod.snd
                  (Prod.snd
                    (Prod.snd
                      (Lp.res lp_spec_l31Run_l1
                        ((0 : Int), spec_l31Active_0 x0 x2, x4, x0, x1, x2, x3, (0 : Int), (0 : Int), (0 : Int), (0 : Int))))))))))

def spec_l31Run_4 (x0 : Int) (x1 : Int) (x2 : Int) (x3 : Int) (x4 : List (Int × Int × Bool × Bool)) : Int :=
  bif decide ((↑(List.length x4) : Int) > (200 : Int)) then (0 : Int)
  else
  bif !Prod.fst (Prod.snd (Prod.snd (Lp.res lp_spec_l31Run_l0 ((0 : Int), spec_IsPair_0 x0 x1 x2 x3, x4)))) then (0 : Int)
  else
    bif
        Nat.beq
          (Prod.fst (Lp.res lp_spec_l31Run_l1 ((0 : Int), spec_l31Active_0 x0 x2, x4, x0, x1, x2, x3, (0 : Int), (0 : Int), (0 : Int), (0 : Int))))
          (0 : Nat) then
      (0 : Int)
    else
      Prod.fst
        (Prod.snd
          (Prod.snd (Lp.res lp_spec_l31Run_l1 ((0 : Int), spec_l31Active_0 x0 x2, x4, x0, x1, x2, x3, (0 : Int), (0 : Int), (0 : Int), (0 : Int)))))

def spec_l31Run_5 (x0 : Int) (x1 : Int) (x2 : Int) (x3 : Int) (x4 : List (Int × Int × Bool × Bool)) : Int :=
  bif decide ((↑(List.length x4) : Int) > (200 : Int)) then (3 : Int)
  else
  bif !Prod.fst (Prod.snd (Prod.snd (Lp.res lp_spec_l31Run_l0 ((0 : Int), spec_IsPair_0 x0 x1 x2 x3, x4)))) then (1 : Int)
  else
    bif
        Nat.beq
          (Prod.fst (Lp.res lp_spec_l31Run_l1 ((0 : Int), spec_l31Active_0 x0 x2, x4, x0, x1, x2, x3, (0 : Int), (0 : Int), (0 : Int), (0 : Int))))
          (0 : Nat) then
      (5 : Int)
    else (0 : Int)

def spec_l31Run_6 (x0 : Int) (x1 : Int) (x2 : Int) (x3 : Int) (x4 : List (Int × Int × Bool × Bool)) : Bool :=
  allT
  [decide ((↑(List.length x4) : Int) > (200 : Int)) || Lp.fin lp_spec_l31Run_l0 ((0 : Int), spec_IsPair_0 x0 x1 x2 x3, x4),
    decide ((↑(List.length x4) : Int) > (200 : Int)) ||
      (!Prod.fst (Prod.snd (Prod.snd (Lp.res lp_spec_l31Run_l0 ((0 : Int), spec_IsPair_0 x0 x1 x2 x3, x4)))) ||
        Lp.fin lp_spec_l31Run_l1 ((0 : Int), spec_l31Active_0 x0 x2, x4, x0, x1, x2, x3, (0 : Int), (0 : Int), (0 : Int), (0 : Int)))]

def F_spec_l31Run : List SV → List Entry → Option Out
  | [.one ⟨true, [.val (.int .i64 x0), .val (.int .i64 x1), .val (.int .i64 x2), .val (.int .i64 x3)]⟩, .one ⟨false, [.ref 0]⟩], [.row false 48 (.pair (.int .i64) (.pair (.int .i64) (.pair (.bool) (.bool)))) x4] => some ⟨(.tup [⟨true, [(.val (.int IntKind.i64 (spec_l31Run_0 x0 x1 x2 x3 x4))), (.val (.int IntKind.i64 (spec_l31Run_1 x0 x1 x2 x3 x4))), (.val (.int IntKind.i64 (spec_l31Run_2 x0 x1 x2 x3 x4))), (.val (.int IntKind.i64 (spec_l31Run_3 x0 x1 x2 x3 x4)))]⟩, ⟨false, [(.val (.int IntKind.i64 (spec_l31Run_4 x0 x1 x2 x3 x4)))]⟩, ⟨false, [(.val (.int IntKind.i64 (spec_l31Run_5 x0 x1 x2 x3 x4)))]⟩]), [(.row false 48 (CTy.pair (CTy.int IntKind.i64) (CTy.pair (CTy.int IntKind.i64) (CTy.pair CTy.bool CTy.bool))) x4)], [], [(spec_l31Run_6 x0 x1 x2 x3 x4)]⟩
  | _, _ => none

def p_spec_l31Run : PF Try.prog := PF.ofG Try.prog [p_spec_IsPair, p_spec_IsPairEvent, p_spec_l31Active, p_spec_l31Step] [lp_spec_l31Run_l0.F, lp_spec_l31Run_l1.F] hmix 71 Try.f71 Try.func71 (LOk.fnT (l := [loopAt Try.f71 0, loopAt Try.f71 1]) (by kernel_rfl) (.cons lpok_spec_l31Run_l0 (.cons lpok_spec_l31Run_l1 (.nil _)))) F_spec_l31Run (by
  intro vs es r h; unfold F_spec_l31Run at h; split at h
  · cases h; kernel_rfl
  · cases h)

def spec_RunPair_0 (x0 : Int) (x1 : Int) (x2 : Int) (x3 : Int) (x4 : List (Int × Int × Bool × Bool)) : Int :=
  spec_l31Run_0 x0 x1 x2 x3 x4

def spec_RunPair_1 (x0 : Int) (x1 : Int) (x2 : Int) (x3 : Int) (x4 : List (Int × Int × Bool × Bool)) : Int :=
  spec_l31Run_1 x0 x1 x2 x3 x4

def spec_RunPair_2 (x0 : Int) (x1 : Int) (x2 : Int) (x3 : Int) (x4 : List (Int × Int × Bool × Bool)) : Int :=
  spec_l31Run_2 x0 x1 x2 x3 x4

def spec_RunPair_3 (x0 : Int) (x1 : Int) (x2 : Int) (x3 : Int) (x4 : List (Int × Int × Bool × Bool)) : Int :=
  spec_l31Run_3 x0 x1 x2 x3 x4

def spec_RunPair_4 (x0 : Int) (x1 : Int) (x2 : Int) (x3 : Int) (x4 : List (Int × Int × Bool × Bool)) : Int :=
  spec_l31Run_5 x0 x1 x2 x3 x4

def spec_RunPair_5 (x0 : Int) (x1 : Int) (x2 : Int) (x3 : Int) (x4 : List (Int × Int × Bool × Bool)) : Bool :=
  allT [spec_l31Run_6 x0 x1 x2 x3 x4]

def F_spec_RunPair : List SV → List Entry → Option Out
  | [.one ⟨true, [.val (.int .i64 x0), .val (.int .i64 x1), .val (.int .i64 x2), .val (.int .i64 x3)]⟩, .one ⟨false, [.ref 0]⟩], [.row false 48 (.pair (.int .i64) (.pair (.int .i64) (.pair (.bool) (.bool)))) x4] => some ⟨(.tup [⟨true, [(.val (.int IntKind.i64 (spec_RunPair_0 x0 x1 x2 x3 x4))), (.val (.int IntKind.i64 (spec_RunPair_1 x0 x1 x2 x3 x4))), (.val (.int IntKind.i64 (spec_RunPair_2 x0 x1 x2 x3 x4))), (.val (.int IntKind.i64 (spec_RunPair_3 x0 x1 x2 x3 x4)))]⟩, ⟨false, [(.val (.int IntKind.i64 (spec_RunPair_4 x0 x1 x2 x3 x4)))]⟩]), [(.row false 48 (CTy.pair (CTy.int IntKind.i64) (CTy.pair (CTy.int IntKind.i64) (CTy.pair CTy.bool CTy.bool))) x4)], [], [(spec_RunPair_5 x0 x1 x2 x3 x4)]⟩
  | _, _ => none

def p_spec_RunPair : PF Try.prog := PF.ofG Try.prog [p_spec_l31Run, PF.lend p_spec_l31Run, PF.fz p_spec_l31Run] [] hmix 37 Try.f37 Try.func37 (fun c _ => LOk.nil c) F_spec_RunPair (by
  intro vs es r h; unfold F_spec_RunPair at h; split at h
  · cases h; kernel_rfl
  · cases h)

def spec_StepPair_0 (x0 : Int) (x1 : Int) (x2 : Int) (x3 : Int) (x4 : Int) (x5 : Int) (x6 : Bool) (x7 : Bool) : Int :=
  spec_RunPair_0 x0 x1 x2 x3 [(x4, x5, x6, x7)]

def spec_StepPair_1 (x0 : Int) (x1 : Int) (x2 : Int) (x3 : Int) (x4 : Int) (x5 : Int) (x6 : Bool) (x7 : Bool) : Int :=
  spec_RunPair_1 x0 x1 x2 x3 [(x4, x5, x6, x7)]

def spec_StepPair_2 (x0 : Int) (x1 : Int) (x2 : Int) (x3 : Int) (x4 : Int) (x5 : Int) (x6 : Bool) (x7 : Bool) : Int :=
  spec_RunPair_2 x0 x1 x2 x3 [(x4, x5, x6, x7)]

def spec_StepPair_3 (x0 : Int) (x1 : Int) (x2 : Int) (x3 : Int) (x4 : Int) (x5 : Int) (x6 : Bool) (x7 : Bool) : Int :=
  spec_RunPair_3 x0 x1 x2 x3 [(x4, x5, x6, x7)]

def spec_StepPair_4 (x0 : Int) (x1 : Int) (x2 : Int) (x3 : Int) (x4 : Int) (x5 : Int) (x6 : Bool) (x7 : Bool) : Int :=
  spec_RunPair_4 x0 x1 x2 x3 [(x4, x5, x6, x7)]

def spec_StepPair_5 (x0 : Int) (x1 : Int) (x2 : Int) (x3 : Int) (x4 : Int) (x5 : Int) (x6 : Bool) (x7 : Bool) : Bool :=
  allT [spec_RunPair_5 x0 x1 x2 x3 [(x4, x5, x6, x7)]]

def F_spec_StepPair : List SV → List Entry → Option Out
  | [.one ⟨true, [.val (.int .i64 x0), .val (.int .i64 x1), .val (.int .i64 x2), .val (.int .i64 x3)]⟩, .one ⟨true, [.val (.int .i64 x4), .val (.int .i64 x5), .val (.bool x6), .val (.bool x7)]⟩], [] => some ⟨(.tup [⟨true, [(.val (.int IntKind.i64 (spec_StepPair_0 x0 x1 x2 x3 x4 x5 x6 x7))), (.val (.int IntKind.i64 (spec_StepPair_1 x0 x1 x2 x3 x4 x5 x6 x7))), (.val (.int IntKind.i64 (spec_StepPair_2 x0 x1 x2 x3 x4 x5 x6 x7))), (.val (.int IntKind.i64 (spec_StepPair_3 x0 x1 x2 x3 x4 x5 x6 x7)))]⟩, ⟨false, [(.val (.int IntKind.i64 (spec_StepPair_4 x0 x1 x2 x3 x4 x5 x6 x7)))]⟩]), [], [], [(spec_StepPair_5 x0 x1 x2 x3 x4 x5 x6 x7)]⟩
  | _, _ => none

def p_spec_StepPair : PF Try.prog := PF.ofG Try.prog [p_spec_RunPair, PF.lend p_spec_RunPair, PF.fz p_spec_RunPair] [] hmix 22 Try.f22 Try.func22 (fun c _ => LOk.nil c) F_spec_StepPair (by
  intro vs es r h; unfold F_spec_StepPair at h; split at h
  · cases h; kernel_rfl
  · cases h)

def F_laws_toPairEvent : List SV → List Entry → Option Out
  | [.one ⟨true, [.val (.int .i64 x0), .val (.int .i64 x1), .val (.bool x2), .val (.bool x3)]⟩], [] => some ⟨(.one ⟨true, [(.val (.int IntKind.i64 x0)), (.val (.int IntKind.i64 x1)), (.val (.bool x2)), (.val (.bool x3))]⟩), [], [], []⟩
  | _, _ => none

def p_laws_toPairEvent : PF Try.prog := PF.ofG Try.prog [] [] hmix 23 Try.f23 Try.func23 (fun c _ => LOk.nil c) F_laws_toPairEvent (by
  intro vs es r h; unfold F_laws_toPairEvent at h; split at h
  · cases h; kernel_rfl
  · cases h)

def impl_IsPairEvent_0 (x0 : Int) (x1 : Int) (x2 : Bool) (x3 : Bool) : Bool :=
  bif x0 == (0 : Int) then x1 == (0 : Int)
  else bif bif bif impl_within_0 x0 (1 : Int) (2 : Int) then impl_within_0 x1 (0 : Int) (1 : Int) else false then !x2 else false then !x3 else false

def F_impl_IsPairEvent : List SV → List Entry → Option Out
  | [.one ⟨true, [.val (.int .i64 x0), .val (.int .i64 x1), .val (.bool x2), .val (.bool x3)]⟩], [] => some ⟨(.one ⟨false, [(.val (.bool (impl_IsPairEvent_0 x0 x1 x2 x3)))]⟩), [], [], []⟩
  | _, _ => none

def p_impl_IsPairEvent : PF Try.prog := PF.ofG Try.prog [p_impl_within] [] hmix 43 Try.f43 Try.func43 (fun c _ => LOk.nil c) F_impl_IsPairEvent (by
  intro vs es r h; unfold F_impl_IsPairEvent at h; split at h
  · cases h; kernel_rfl
  · cases h)

def impl_runPair_1_0 (x0 : Int) (x1 : Int) (x2 : Bool) (x3 : Bool) : Bool :=
  !impl_IsPairEvent_0 x0 x1 x2 x3

def F_impl_runPair_1 : List SV → List Entry → Option Out
  | [.one ⟨true, [.val (.int .i64 x0), .val (.int .i64 x1), .val (.bool x2), .val (.bool x3)]⟩], [] => some ⟨(.one ⟨false, [(.val (.bool (impl_runPair_1_0 x0 x1 x2 x3)))]⟩), [], [], []⟩
  | _, _ => none

def p_impl_runPair_1 : PF Try.prog := PF.ofG Try.prog [p_impl_IsPairEvent] [] hmix 91 Try.f91 Try.func91 (fun c _ => LOk.nil c) F_impl_runPair_1 (by
  intro vs es r h; unfold F_impl_runPair_1 at h; split at h
  · cases h; kernel_rfl
  · cases h)

abbrev X_slices_IndexFunc_impl_PairEvent_impl_runPair_1_l0 := Int × Int × List (Int × (Int × (Bool × Bool)))

def slices_IndexFunc_impl_PairEvent_impl_runPair_1_l0_0 (y0 : Int) (y1 : Int) : Bool :=
  decide (y0 < y1)

def slices_IndexFunc_impl_PairEvent_impl_runPair_1_l0_1 (y0 : Int) : Bool :=
  decide ((0 : Int) ≤ y0)

def slices_IndexFunc_impl_PairEvent_impl_runPair_1_l0_2 (y0 : Int) (y2 : List (Int × (Int × (Bool × Bool)))) : Bool :=
  decide (y0 < (↑(List.length y2) : Int))

def slices_IndexFunc_impl_PairEvent_impl_runPair_1_l0_3 (y0 : Int) (y2 : List (Int × (Int × (Bool × Bool)))) : Bool :=
  decide (Int.toNat y0 < List.length y2)

def slices_IndexFunc_impl_PairEvent_impl_runPair_1_l0_4 (y0 : Int) (y2 : List (Int × (Int × (Bool × Bool)))) : Bool :=
  impl_runPair_1_0 (Prod.fst (Option.getD y2[Int.toNat y0]? ((0 : Int), (0 : Int), false, false)))
  (Prod.fst (Prod.snd (Option.getD y2[Int.toNat y0]? ((0 : Int), (0 : Int), false, false))))
  (Prod.fst (Prod.snd (Prod.snd (Option.getD y2[Int.toNat y0]? ((0 : Int), (0 : Int), false, false)))))
  (Prod.snd (Prod.snd (Prod.snd (Option.getD y2[Int.toNat y0]? ((0 : Int), (0 : Int), false, false)))))

def slices_IndexFunc_impl_PairEvent_impl_runPair_1_l0_5 (y0 : Int) : Int :=
  IntKind.wrap IntKind.i64 (y0 + (1 : Int))

def JL_slices_IndexFunc_impl_PairEvent_impl_runPair_1_l0 : X_slices_IndexFunc_impl_PairEvent_impl_runPair_1_l0 → List (Nat × SV)
  | (y0, y1, _) => [(8, (.one ⟨false, [(.val (.int IntKind.i64 y0))]⟩)), (7, (.one ⟨false, [(.val (.int IntKind.i64 y1))]⟩)), (1, (.one ⟨false, [(.val (.func (.func 91) ⟨[]⟩ ⟨[]⟩))]⟩)), (0, (.one ⟨false, [(.ref 0)]⟩))]

def JE_slices_IndexFunc_impl_PairEvent_impl_runPair_1_l0 : X_slices_IndexFunc_impl_PairEvent_impl_runPair_1_l0 → List (Nat × Entry)
  | (_, _, y2) => [(0, (.row false 48 (CTy.pair (CTy.int IntKind.i64) (CTy.pair (CTy.int IntKind.i64) (CTy.pair CTy.bool CTy.bool))) y2))]

def XL_slices_IndexFunc_impl_PairEvent_impl_runPair_1_l0 : Nat → X_slices_IndexFunc_impl_PairEvent_impl_runPair_1_l0 → List (Nat × SV)
  | 0, (y0, _, _) => [(4, (.one ⟨false, [(.val (.int IntKind.i64 y0))]⟩))]
  | _, (_, _, _) => []

def XE_slices_IndexFunc_impl_PairEvent_impl_runPair_1_l0 : Nat → X_slices_IndexFunc_impl_PairEvent_impl_runPair_1_l0 → List (Nat × Entry)
  | 0, (_, _, y2) => [(0, (.row false 48 (CTy.pair (CTy.int IntKind.i64) (CTy.pair (CTy.int IntKind.i64) (CTy.pair CTy.bool CTy.bool))) y2))]
  | _, (_, _, y2) => [(0, (.row false 48 (CTy.pair (CTy.int IntKind.i64) (CTy.pair (CTy.int IntKind.i64) (CTy.pair CTy.bool CTy.bool))) y2))]

def lt_slices_IndexFunc_impl_PairEvent_impl_runPair_1_l0 : X_slices_IndexFunc_impl_PairEvent_impl_runPair_1_l0 → LT X_slices_IndexFunc_impl_PairEvent_impl_runPair_1_l0
  | (y0, y1, y2) => .ite (slices_IndexFunc_impl_PairEvent_impl_runPair_1_l0_0 y0 y1) (.need [(slices_IndexFunc_impl_PairEvent_impl_runPair_1_l0_1 y0), (slices_IndexFunc_impl_PairEvent_impl_runPair_1_l0_2 y0 y2), (slices_IndexFunc_impl_PairEvent_impl_runPair_1_l0_3 y0 y2)] (.ite (slices_IndexFunc_impl_PairEvent_impl_runPair_1_l0_4 y0 y2) (.ext 0 [(0, 0)]) (.nrm ((slices_IndexFunc_impl_PairEvent_impl_runPair_1_l0_5 y0), y1, y2) [(0, 0)]))) (.ext 1 [(0, 0)])

def rd_slices_IndexFunc_impl_PairEvent_impl_runPair_1_l0 (s : St) : Option X_slices_IndexFunc_impl_PairEvent_impl_runPair_1_l0 :=
  (match s.look 8 with
  | some ⟨none, (.one ⟨false, [(.val (.int IntKind.i64 y0))]⟩)⟩ =>
  (match s.look 7 with
  | some ⟨none, (.one ⟨false, [(.val (.int IntKind.i64 y1))]⟩)⟩ =>
  (match s.look 1 with
  | some ⟨none, (.one ⟨false, [(.val (.func (.func 91) ⟨[]⟩ ⟨[]⟩))]⟩)⟩ =>
  (match s.look 0 with
  | some ⟨none, (.one ⟨false, [(.ref 0)]⟩)⟩ =>
  (match s.ent 0 with
  | some (.row false 48 (CTy.pair (CTy.int IntKind.i64) (CTy.pair (CTy.int IntKind.i64) (CTy.pair CTy.bool CTy.bool))) y2) =>
  some (y0, y1, y2)
  | _ => none)
  | _ => none)
  | _ => none)
  | _ => none)
  | _ => none)

def lp_slices_IndexFunc_impl_PairEvent_impl_runPair_1_l0 : Lp X_slices_IndexFunc_impl_PairEvent_impl_runPair_1_l0 where
  h := ⟨[9, 10, 5, 11, 12, 13, 14, 15, 16, 17, 4, 18, 8], [0], [], []⟩
  JL := JL_slices_IndexFunc_impl_PairEvent_impl_runPair_1_l0
  JE := JE_slices_IndexFunc_impl_PairEvent_impl_runPair_1_l0
  XL := XL_slices_IndexFunc_impl_PairEvent_impl_runPair_1_l0
  XE := XE_slices_IndexFunc_impl_PairEvent_impl_runPair_1_l0
  q := fun j => match j with | 0 => .ret | _ => .exit 0
  tags := [0, 1]
  lt := lt_slices_IndexFunc_impl_PairEvent_impl_runPair_1_l0
  fuel := fun (y0, y1, y2) => y0.natAbs + y1.natAbs + y2.length
  fix := fun (_, y1, y2) (y0, _, _) => (y0, y1, y2)
  σ := [(0, 0)]
  rd := rd_slices_IndexFunc_impl_PairEvent_impl_runPair_1_l0

theorem lpok_slices_IndexFunc_impl_PairEvent_impl_runPair_1_l0 : LoopOk Try.prog (fun k => Nat.blt k Try.f95.ntmps) lp_slices_IndexFunc_impl_PairEvent_impl_runPair_1_l0.F (loopAt Try.f95 0) := by
  refine Lp.ok (tbl := [p_impl_runPair_1]) (lf := []) hmix lp_slices_IndexFunc_impl_PairEvent_impl_runPair_1_l0 (by kernel_rfl) (LOk.nil _) (fun _ => rfl) (fun j _ => by unfold lp_slices_IndexFunc_impl_PairEvent_impl_runPair_1_l0; match j with | 0 => rfl | _ + 1 => rfl) ?_ ?_ ?_ ?_ (fun _ => rfl) ?_
  · intro x; obtain ⟨y0, y1, y2⟩ := x; kernel_rfl
  · intro x; obtain ⟨y0, y1, y2⟩ := x; kernel_rfl
  · intro s x h
    have h : rd_slices_IndexFunc_impl_PairEvent_impl_runPair_1_l0 s = some x := h
    unfold rd_slices_IndexFunc_impl_PairEvent_impl_runPair_1_l0 at h
    repeat' split at h
    all_goals cases h
    exact ⟨absS_cons (by assumption) rfl (absS_cons (by assumption) rfl (absS_cons (by assumption) rfl (absS_cons (by assumption) rfl (rfl)))), absE_cons rfl (by assumption) rfl (rfl)⟩
  · intro x; obtain ⟨y0, y1, y2⟩ := x; kernel_rfl
  · intro x z; obtain ⟨y0, y1, y2⟩ := x; exact (And.intro (And.intro trivial rfl) trivial)

def slices_IndexFunc_impl_PairEvent_impl_runPair_1_0 (x0 : List (Int × Int × Bool × Bool)) : Int :=
  bif Nat.beq (Prod.fst (Lp.res lp_slices_IndexFunc_impl_PairEvent_impl_runPair_1_l0 ((0 : Int), (↑(List.length x0) : Int), x0))) (0 : Nat) then
  Prod.fst (Prod.snd (Lp.res lp_slices_IndexFunc_impl_PairEvent_impl_runPair_1_l0 ((0 : Int), (↑(List.length x0) : Int), x0)))
  else (-1 : Int)

def slices_IndexFunc_impl_PairEvent_impl_runPair_1_1 (x0 : List (Int × Int × Bool × Bool)) : Bool :=
  allT [Lp.fin lp_slices_IndexFunc_impl_PairEvent_impl_runPair_1_l0 ((0 : Int), (↑(List.length x0) : Int), x0)]

def F_slices_IndexFunc_impl_PairEvent_impl_runPair_1 : List SV → List Entry → Option Out
  | [.one ⟨false, [.ref 0]⟩, .one ⟨false, [.val (.func (.func 91) ⟨[]⟩ ⟨[]⟩)]⟩], [.row false 48 (.pair (.int .i64) (.pair (.int .i64) (.pair (.bool) (.bool)))) x0] => some ⟨(.one ⟨false, [(.val (.int IntKind.i64 (slices_IndexFunc_impl_PairEvent_impl_runPair_1_0 x0)))]⟩), [(.row false 48 (CTy.pair (CTy.int IntKind.i64) (CTy.pair (CTy.int IntKind.i64) (CTy.pair CTy.bool CTy.bool))) x0)], [], [(slices_IndexFunc_impl_PairEvent_impl_runPair_1_1 x0)]⟩
  | _, _ => none

def p_slices_IndexFunc_impl_PairEvent_impl_runPair_1 : PF Try.prog := PF.ofG Try.prog [p_impl_runPair_1] [lp_slices_IndexFunc_impl_PairEvent_impl_runPair_1_l0.F] hmix 95 Try.f95 Try.func95 (LOk.fnT (l := [loopAt Try.f95 0]) (by kernel_rfl) (.cons lpok_slices_IndexFunc_impl_PairEvent_impl_runPair_1_l0 (.nil _))) F_slices_IndexFunc_impl_PairEvent_impl_runPair_1 (by
  intro vs es r h; unfold F_slices_IndexFunc_impl_PairEvent_impl_runPair_1 at h; split at h
  · cases h; kernel_rfl
  · cases h)

def slices_ContainsFunc_impl_PairEvent_impl_runPair_1_0 (x0 : List (Int × Int × Bool × Bool)) : Bool :=
  decide (slices_IndexFunc_impl_PairEvent_impl_runPair_1_0 x0 ≥ (0 : Int))

def slices_ContainsFunc_impl_PairEvent_impl_runPair_1_1 (x0 : List (Int × Int × Bool × Bool)) : Bool :=
  allT [slices_IndexFunc_impl_PairEvent_impl_runPair_1_1 x0]

def F_slices_ContainsFunc_impl_PairEvent_impl_runPair_1 : List SV → List Entry → Option Out
  | [.one ⟨false, [.ref 0]⟩, .one ⟨false, [.val (.func (.func 91) ⟨[]⟩ ⟨[]⟩)]⟩], [.row false 48 (.pair (.int .i64) (.pair (.int .i64) (.pair (.bool) (.bool)))) x0] => some ⟨(.one ⟨false, [(.val (.bool (slices_ContainsFunc_impl_PairEvent_impl_runPair_1_0 x0)))]⟩), [(.row false 48 (CTy.pair (CTy.int IntKind.i64) (CTy.pair (CTy.int IntKind.i64) (CTy.pair CTy.bool CTy.bool))) x0)], [], [(slices_ContainsFunc_impl_PairEvent_impl_runPair_1_1 x0)]⟩
  | _, _ => none

def p_slices_ContainsFunc_impl_PairEvent_impl_runPair_1 : PF Try.prog := PF.ofG Try.prog [p_impl_runPair_1, p_slices_IndexFunc_impl_PairEvent_impl_runPair_1, PF.lend p_slices_IndexFunc_impl_PairEvent_impl_runPair_1, PF.fz p_slices_IndexFunc_impl_PairEvent_impl_runPair_1] [] hmix 90 Try.f90 Try.func90 (fun c _ => LOk.nil c) F_slices_ContainsFunc_impl_PairEvent_impl_runPair_1 (by
  intro vs es r h; unfold F_slices_ContainsFunc_impl_PairEvent_impl_runPair_1 at h; split at h
  · cases h; kernel_rfl
  · cases h)

abbrev X_impl_runPair_l0 := Int × Int × List (Int × (Int × (Bool × Bool))) × List ((Int × Int) × (Int × Int))

def impl_runPair_l0_0 (y0 : Int) (y1 : Int) : Bool :=
  decide (y0 < y1)

def impl_runPair_l0_1 (y0 : Int) : Bool :=
  decide ((0 : Int) ≤ y0)

def impl_runPair_l0_2 (y0 : Int) (y2 : List (Int × (Int × (Bool × Bool)))) : Bool :=
  decide (y0 < (↑(List.length y2) : Int))

def impl_runPair_l0_3 (y0 : Int) (y2 : List (Int × (Int × (Bool × Bool)))) : Bool :=
  decide (Int.toNat y0 < List.length y2)

def impl_runPair_l0_4 (y0 : Int) (y3 : List ((Int × Int) × (Int × Int))) : Bool :=
  decide (y0 < (↑(List.length y3) : Int))

def impl_runPair_l0_5 (y0 : Int) (y3 : List ((Int × Int) × (Int × Int))) : Bool :=
  decide (Int.toNat y0 < List.length y3)

def impl_runPair_l0_6 (y0 : Int) (y2 : List (Int × (Int × (Bool × Bool)))) (y3 : List ((Int × Int) × (Int × Int))) : Bool :=
  !loop_example_g00916_impl_Pair_step_4 (Prod.fst (Prod.fst (Option.getD y3[Int.toNat y0]? (((0 : Int), (0 : Int)), (0 : Int), (0 : Int)))))
    (Prod.fst (Prod.snd (Option.getD y3[Int.toNat y0]? (((0 : Int), (0 : Int)), (0 : Int), (0 : Int)))))
    (Prod.fst (Option.getD y2[Int.toNat y0]? ((0 : Int), (0 : Int), false, false)))
    (Prod.fst (Prod.snd (Option.getD y2[Int.toNat y0]? ((0 : Int), (0 : Int), false, false))))

def impl_runPair_l0_7 (y0 : Int) (y2 : List (Int × (Int × (Bool × Bool)))) (y3 : List ((Int × Int) × (Int × Int))) : Bool :=
  decide
  (List.length y3 +
      List.length
        [((loop_example_g00916_impl_Pair_step_0 (Prod.fst (Prod.fst (Option.getD y3[Int.toNat y0]? (((0 : Int), (0 : Int)), (0 : Int), (0 : Int)))))
                (Prod.snd (Prod.fst (Option.getD y3[Int.toNat y0]? (((0 : Int), (0 : Int)), (0 : Int), (0 : Int)))))
                (Prod.fst (Prod.snd (Option.getD y3[Int.toNat y0]? (((0 : Int), (0 : Int)), (0 : Int), (0 : Int)))))
                (Prod.snd (Prod.snd (Option.getD y3[Int.toNat y0]? (((0 : Int), (0 : Int)), (0 : Int), (0 : Int)))))
                (Prod.fst (Option.getD y2[Int.toNat y0]? ((0 : Int), (0 : Int), false, false)))
                (Prod.fst (Prod.snd (Option.getD y2[Int.toNat y0]? ((0 : Int), (0 : Int), false, false))))
                (Prod.snd (Prod.snd (Prod.snd (Option.getD y2[Int.toNat y0]? ((0 : Int), (0 : Int), false, false))))),
              loop_example_g00916_impl_Pair_step_1
                (Prod.fst (Prod.fst (Option.getD y3[Int.toNat y0]? (((0 : Int), (0 : Int)), (0 : Int), (0 : Int)))))
                (Prod.snd (Prod.fst (Option.getD y3[Int.toNat y0]? (((0 : Int), (0 : Int)), (0 : Int), (0 : Int)))))
                (Prod.fst (Prod.snd (Option.getD y3[Int.toNat y0]? (((0 : Int), (0 : Int)), (0 : Int), (0 : Int)))))
                (Prod.snd (Prod.snd (Option.getD y3[Int.toNat y0]? (((0 : Int), (0 : Int)), (0 : Int), (0 : Int)))))
                (Prod.fst (Option.getD y2[Int.toNat y0]? ((0 : Int), (0 : Int), false, false)))
                (Prod.fst (Prod.snd (Option.getD y2[Int.toNat y0]? ((0 : Int), (0 : Int), false, false))))
                (Prod.snd (Prod.snd (Prod.snd (Option.getD y2[Int.toNat y0]? ((0 : Int), (0 : Int), false, false)))))),
            loop_example_g00916_impl_Pair_step_2 (Prod.fst (Prod.fst (Option.getD y3[Int.toNat y0]? (((0 : Int), (0 : Int)), (0 : Int), (0 : Int)))))
              (Prod.snd (Prod.fst (Option.getD y3[Int.toNat y0]? (((0 : Int), (0 : Int)), (0 : Int), (0 : Int)))))
              (Prod.fst (Prod.snd (Option.getD y3[Int.toNat y0]? (((0 : Int), (0 : Int)), (0 : Int), (0 : Int)))))
              (Prod.snd (Prod.snd (Option.getD y3[Int.toNat y0]? (((0 : Int), (0 : Int)), (0 : Int), (0 : Int)))))
              (Prod.fst (Option.getD y2[Int.toNat y0]? ((0 : Int), (0 : Int), false, false)))
              (Prod.fst (Prod.snd (Option.getD y2[Int.toNat y0]? ((0 : Int), (0 : Int), false, false))))
              (Prod.fst (Prod.snd (Prod.snd (Option.getD y2[Int.toNat y0]? ((0 : Int), (0 : Int), false, false))))),
            loop_example_g00916_impl_Pair_step_3 (Prod.fst (Prod.fst (Option.getD y3[Int.toNat y0]? (((0 : Int), (0 : Int)), (0 : Int), (0 : Int)))))
              (Prod.snd (Prod.fst (Option.getD y3[Int.toNat y0]? (((0 : Int), (0 : Int)), (0 : Int), (0 : Int)))))
              (Prod.fst (Prod.snd (Option.getD y3[Int.toNat y0]? (((0 : Int), (0 : Int)), (0 : Int), (0 : Int)))))
              (Prod.snd (Prod.snd (Option.getD y3[Int.toNat y0]? (((0 : Int), (0 : Int)), (0 : Int), (0 : Int)))))
              (Prod.fst (Option.getD y2[Int.toNat y0]? ((0 : Int), (0 : Int), false, false)))
              (Prod.fst (Prod.snd (Option.getD y2[Int.toNat y0]? ((0 : Int), (0 : Int), false, false))))
              (Prod.fst (Prod.snd (Prod.snd (Option.getD y2[Int.toNat y0]? ((0 : Int), (0 : Int), false, false))))))] ≤
    (9223372036854775807 : Nat))

def impl_runPair_l0_8 (y0 : Int) (y2 : List (Int × (Int × (Bool × Bool)))) (y3 : List ((Int × Int) × (Int × Int))) : Bool :=
  decide
  ((List.length y3 +
        List.length
          [((loop_example_g00916_impl_Pair_step_0 (Prod.fst (Prod.fst (Option.getD y3[Int.toNat y0]? (((0 : Int), (0 : Int)), (0 : Int), (0 : Int)))))
                  (Prod.snd (Prod.fst (Option.getD y3[Int.toNat y0]? (((0 : Int), (0 : Int)), (0 : Int), (0 : Int)))))
                  (Prod.fst (Prod.snd (Option.getD y3[Int.toNat y0]? (((0 : Int), (0 : Int)), (0 : Int), (0 : Int)))))
                  (Prod.snd (Prod.snd (Option.getD y3[Int.toNat y0]? (((0 : Int), (0 : Int)), (0 : Int), (0 : Int)))))
                  (Prod.fst (Option.getD y2[Int.toNat y0]? ((0 : Int), (0 : Int), false, false)))
                  (Prod.fst (Prod.snd (Option.getD y2[Int.toNat y0]? ((0 : Int), (0 : Int), false, false))))
                  (Prod.snd (Prod.snd (Prod.snd (Option.getD y2[Int.toNat y0]? ((0 : Int), (0 : Int), false, false))))),
                loop_example_g00916_impl_Pair_step_1
                  (Prod.fst (Prod.fst (Option.getD y3[Int.toNat y0]? (((0 : Int), (0 : Int)), (0 : Int), (0 : Int)))))
                  (Prod.snd (Prod.fst (Option.getD y3[Int.toNat y0]? (((0 : Int), (0 : Int)), (0 : Int), (0 : Int)))))
                  (Prod.fst (Prod.snd (Option.getD y3[Int.toNat y0]? (((0 : Int), (0 : Int)), (0 : Int), (0 : Int)))))
                  (Prod.snd (Prod.snd (Option.getD y3[Int.toNat y0]? (((0 : Int), (0 : Int)), (0 : Int), (0 : Int)))))
                  (Prod.fst (Option.getD y2[Int.toNat y0]? ((0 : Int), (0 : Int), false, false)))
                  (Prod.fst (Prod.snd (Option.getD y2[Int.toNat y0]? ((0 : Int), (0 : Int), false, false))))
                  (Prod.snd (Prod.snd (Prod.snd (Option.getD y2[Int.toNat y0]? ((0 : Int), (0 : Int), false, false)))))),
              loop_example_g00916_impl_Pair_step_2
                (Prod.fst (Prod.fst (Option.getD y3[Int.toNat y0]? (((0 : Int), (0 : Int)), (0 : Int), (0 : Int)))))
                (Prod.snd (Prod.fst (Option.getD y3[Int.toNat y0]? (((0 : Int), (0 : Int)), (0 : Int), (0 : Int)))))
                (Prod.fst (Prod.snd (Option.getD y3[Int.toNat y0]? (((0 : Int), (0 : Int)), (0 : Int), (0 : Int)))))
                (Prod.snd (Prod.snd (Option.getD y3[Int.toNat y0]? (((0 : Int), (0 : Int)), (0 : Int), (0 : Int)))))
                (Prod.fst (Option.getD y2[Int.toNat y0]? ((0 : Int), (0 : Int), false, false)))
                (Prod.fst (Prod.snd (Option.getD y2[Int.toNat y0]? ((0 : Int), (0 : Int), false, false))))
                (Prod.fst (Prod.snd (Prod.snd (Option.getD y2[Int.toNat y0]? ((0 : Int), (0 : Int), false, false))))),
              loop_example_g00916_impl_Pair_step_3
                (Prod.fst (Prod.fst (Option.getD y3[Int.toNat y0]? (((0 : Int), (0 : Int)), (0 : Int), (0 : Int)))))
                (Prod.snd (Prod.fst (Option.getD y3[Int.toNat y0]? (((0 : Int), (0 : Int)), (0 : Int), (0 : Int)))))
                (Prod.fst (Prod.snd (Option.getD y3[Int.toNat y0]? (((0 : Int), (0 : Int)), (0 : Int), (0 : Int)))))
                (Prod.snd (Prod.snd (Option.getD y3[Int.toNat y0]? (((0 : Int), (0 : Int)), (0 : Int), (0 : Int)))))
                (Prod.fst (Option.getD y2[Int.toNat y0]? ((0 : Int), (0 : Int), false, false)))
                (Prod.fst (Prod.snd (Option.getD y2[Int.toNat y0]? ((0 : Int), (0 : Int), false, false))))
                (Prod.fst (Prod.snd (Prod.snd (Option.getD y2[Int.toNat y0]? ((0 : Int), (0 : Int), false, false))))))]) *
      (32 : Nat) ≤
    (140737488355328 : Nat))

def impl_runPair_l0_9 (y0 : Int) : Int :=
  IntKind.wrap IntKind.i64 (y0 + (1 : Int))

def impl_runPair_l0_10 (y0 : Int) (y2 : List (Int × (Int × (Bool × Bool)))) (y3 : List ((Int × Int) × (Int × Int))) : List ((Int × Int) × (Int × Int)) :=
  y3 ++
  [((loop_example_g00916_impl_Pair_step_0 (Prod.fst (Prod.fst (Option.getD y3[Int.toNat y0]? (((0 : Int), (0 : Int)), (0 : Int), (0 : Int)))))
          (Prod.snd (Prod.fst (Option.getD y3[Int.toNat y0]? (((0 : Int), (0 : Int)), (0 : Int), (0 : Int)))))
          (Prod.fst (Prod.snd (Option.getD y3[Int.toNat y0]? (((0 : Int), (0 : Int)), (0 : Int), (0 : Int)))))
          (Prod.snd (Prod.snd (Option.getD y3[Int.toNat y0]? (((0 : Int), (0 : Int)), (0 : Int), (0 : Int)))))
          (Prod.fst (Option.getD y2[Int.toNat y0]? ((0 : Int), (0 : Int), false, false)))
          (Prod.fst (Prod.snd (Option.getD y2[Int.toNat y0]? ((0 : Int), (0 : Int), false, false))))
          (Prod.snd (Prod.snd (Prod.snd (Option.getD y2[Int.toNat y0]? ((0 : Int), (0 : Int), false, false))))),
        loop_example_g00916_impl_Pair_step_1 (Prod.fst (Prod.fst (Option.getD y3[Int.toNat y0]? (((0 : Int), (0 : Int)), (0 : Int), (0 : Int)))))
          (Prod.snd (Prod.fst (Option.getD y3[Int.toNat y0]? (((0 : Int), (0 : Int)), (0 : Int), (0 : Int)))))
          (Prod.fst (Prod.snd (Option.getD y3[Int.toNat y0]? (((0 : Int), (0 : Int)), (0 : Int), (0 : Int)))))
          (Prod.snd (Prod.snd (Option.getD y3[Int.toNat y0]? (((0 : Int), (0 : Int)), (0 : Int), (0 : Int)))))
          (Prod.fst (Option.getD y2[Int.toNat y0]? ((0 : Int), (0 : Int), false, false)))
          (Prod.fst (Prod.snd (Option.getD y2[Int.toNat y0]? ((0 : Int), (0 : Int), false, false))))
          (Prod.snd (Prod.snd (Prod.snd (Option.getD y2[Int.toNat y0]? ((0 : Int), (0 : Int), false, false)))))),
      loop_example_g00916_impl_Pair_step_2 (Prod.fst (Prod.fst (Option.getD y3[Int.toNat y0]? (((0 : Int), (0 : Int)), (0 : Int), (0 : Int)))))
        (Prod.snd (Prod.fst (Option.getD y3[Int.toNat y0]? (((0 : Int), (0 : Int)), (0 : Int), (0 : Int)))))
        (Prod.fst (Prod.snd (Option.getD y3[Int.toNat y0]? (((0 : Int), (0 : Int)), (0 : Int), (0 : Int)))))
        (Prod.snd (Prod.snd (Option.getD y3[Int.toNat y0]? (((0 : Int), (0 : Int)), (0 : Int), (0 : Int)))))
        (Prod.fst (Option.getD y2[Int.toNat y0]? ((0 : Int), (0 : Int), false, false)))
        (Prod.fst (Prod.snd (Option.getD y2[Int.toNat y0]? ((0 : Int), (0 : Int), false, false))))
        (Prod.fst (Prod.snd (Prod.snd (Option.getD y2[Int.toNat y0]? ((0 : Int), (0 : Int), false, false))))),
      loop_example_g00916_impl_Pair_step_3 (Prod.fst (Prod.fst (Option.getD y3[Int.toNat y0]? (((0 : Int), (0 : Int)), (0 : Int), (0 : Int)))))
        (Prod.snd (Prod.fst (Option.getD y3[Int.toNat y0]? (((0 : Int), (0 : Int)), (0 : Int), (0 : Int)))))
        (Prod.fst (Prod.snd (Option.getD y3[Int.toNat y0]? (((0 : Int), (0 : Int)), (0 : Int), (0 : Int)))))
        (Prod.snd (Prod.snd (Option.getD y3[Int.toNat y0]? (((0 : Int), (0 : Int)), (0 : Int), (0 : Int)))))
        (Prod.fst (Option.getD y2[Int.toNat y0]? ((0 : Int), (0 : Int), false, false)))
        (Prod.fst (Prod.snd (Option.getD y2[Int.toNat y0]? ((0 : Int), (0 : Int), false, false))))
        (Prod.fst (Prod.snd (Prod.snd (Option.getD y2[Int.toNat y0]? ((0 : Int), (0 : Int), false, false))))))]

def JL_impl_runPair_l0 : X_impl_runPair_l0 → List (Nat × SV)
  | (y0, y1, _, _) => [(27, (.one ⟨false, [(.val (.int IntKind.i64 y0))]⟩)), (26, (.one ⟨false, [(.val (.int IntKind.i64 y1))]⟩)), (25, (.one ⟨false, [(.ref 0)]⟩)), (6, (.one ⟨false, [(.ref 1)]⟩))]

def JE_impl_runPair_l0 : X_impl_runPair_l0 → List (Nat × Entry)
  | (_, _, y2, y3) => [(0, (.row false 48 (CTy.pair (CTy.int IntKind.i64) (CTy.pair (CTy.int IntKind.i64) (CTy.pair CTy.bool CTy.bool))) y2)), (1, (.row true 30 (CTy.pair (CTy.pair (CTy.int IntKind.i64) (CTy.int IntKind.i64)) (CTy.pair (CTy.int IntKind.i64) (CTy.int IntKind.i64))) y3))]

def XL_impl_runPair_l0 : Nat → X_impl_runPair_l0 → List (Nat × SV)
  | 0, (_, _, _, _) => [(4, (.one ⟨false, [(.ref 2)]⟩)), (5, (.one ⟨false, [(.val (.int IntKind.i64 (5 : Int)))]⟩))]
  | _, (_, _, _, _) => [(6, (.one ⟨false, [(.ref 1)]⟩))]

def XE_impl_runPair_l0 : Nat → X_impl_runPair_l0 → List (Nat × Entry)
  | 0, (_, _, y2, y3) => [(0, (.row false 48 (CTy.pair (CTy.int IntKind.i64) (CTy.pair (CTy.int IntKind.i64) (CTy.pair CTy.bool CTy.bool))) y2)), (1, (.row true 30 (CTy.pair (CTy.pair (CTy.int IntKind.i64) (CTy.int IntKind.i64)) (CTy.pair (CTy.int IntKind.i64) (CTy.int IntKind.i64))) y3)), (2, (.row true 30 (CTy.pair (CTy.pair (CTy.int IntKind.i64) (CTy.int IntKind.i64)) (CTy.pair (CTy.int IntKind.i64) (CTy.int IntKind.i64))) []))]
  | _, (_, _, y2, y3) => [(0, (.row false 48 (CTy.pair (CTy.int IntKind.i64) (CTy.pair (CTy.int IntKind.i64) (CTy.pair CTy.bool CTy.bool))) y2)), (1, (.row true 30 (CTy.pair (CTy.pair (CTy.int IntKind.i64) (CTy.int IntKind.i64)) (CTy.pair (CTy.int IntKind.i64) (CTy.int IntKind.i64))) y3))]

def lt_impl_runPair_l0 : X_impl_runPair_l0 → LT X_impl_runPair_l0
  | (y0, y1, y2, y3) => .ite (impl_runPair_l0_0 y0 y1) (.need [(impl_runPair_l0_1 y0), (impl_runPair_l0_2 y0 y2), (impl_runPair_l0_3 y0 y2)] (.need [(impl_runPair_l0_1 y0), (impl_runPair_l0_4 y0 y3), (impl_runPair_l0_5 y0 y3)] (.ite (impl_runPair_l0_6 y0 y2 y3) (.ext 0 [(0, 0), (1, 1), (2, 1408)]) (.need [(impl_runPair_l0_7 y0 y2 y3), (impl_runPair_l0_8 y0 y2 y3)] (.nrm ((impl_runPair_l0_9 y0), y1, y2, (impl_runPair_l0_10 y0 y2 y3)) [(0, 0), (1, 1600)]))))) (.ext 1 [(0, 0), (1, 1)])

def rd_impl_runPair_l0 (s : St) : Option X_impl_runPair_l0 :=
  (match s.look 27 with
  | some ⟨none, (.one ⟨false, [(.val (.int IntKind.i64 y0))]⟩)⟩ =>
  (match s.look 26 with
  | some ⟨none, (.one ⟨false, [(.val (.int IntKind.i64 y1))]⟩)⟩ =>
  (match s.look 25 with
  | some ⟨none, (.one ⟨false, [(.ref 0)]⟩)⟩ =>
  (match s.look 6 with
  | some ⟨none, (.one ⟨false, [(.ref 1152)]⟩)⟩ =>
  (match s.ent 0 with
  | some (.row false 48 (CTy.pair (CTy.int IntKind.i64) (CTy.pair (CTy.int IntKind.i64) (CTy.pair CTy.bool CTy.bool))) y2) =>
  (match s.ent 1152 with
  | some (.row true 30 (CTy.pair (CTy.pair (CTy.int IntKind.i64) (CTy.int IntKind.i64)) (CTy.pair (CTy.int IntKind.i64) (CTy.int IntKind.i64))) y3) =>
  some (y0, y1, y2, y3)
  | _ => none)
  | _ => none)
  | _ => none)
  | _ => none)
  | _ => none)
  | _ => none)

def lp_impl_runPair_l0 : Lp X_impl_runPair_l0 where
  h := ⟨[28, 29, 30, 31, 8, 7, 33, 34, 35, 36, 37, 38, 32, 39, 40, 9, 10, 41, 42, 4, 5, 43, 44, 45, 46, 6, 47, 27], [0], [1], [2]⟩
  JL := JL_impl_runPair_l0
  JE := JE_impl_runPair_l0
  XL := XL_impl_runPair_l0
  XE := XE_impl_runPair_l0
  q := fun j => match j with | 0 => .ret | _ => .exit 1
  tags := [0, 1]
  lt := lt_impl_runPair_l0
  fuel := fun (y0, y1, y2, y3) => y0.natAbs + y1.natAbs + y2.length + y3.length
  fix := fun (_, y1, y2, _) (y0, _, _, y3) => (y0, y1, y2, y3)
  σ := [(0, 0), (1, 1152)]
  rd := rd_impl_runPair_l0

theorem lpok_impl_runPair_l0 : LoopOk Try.prog (fun k => Nat.blt k Try.f67.ntmps) lp_impl_runPair_l0.F (loopAt Try.f67 0) := by
  refine Lp.ok (tbl := [p_impl_IsPair, p_loop_example_g00916_impl_Pair_step, p_slices_ContainsFunc_impl_PairEvent_impl_runPair_1, PF.lend p_slices_ContainsFunc_impl_PairEvent_impl_runPair_1, PF.fz p_slices_ContainsFunc_impl_PairEvent_impl_runPair_1, p_impl_runPair_1]) (lf := []) hmix lp_impl_runPair_l0 (by kernel_rfl) (LOk.nil _) (fun _ => rfl) (fun j _ => by unfold lp_impl_runPair_l0; match j with | 0 => rfl | _ + 1 => rfl) ?_ ?_ ?_ ?_ (fun _ => rfl) ?_
  · intro x; obtain ⟨y0, y1, y2, y3⟩ := x; kernel_rfl
  · intro x; obtain ⟨y0, y1, y2, y3⟩ := x; kernel_rfl
  · intro s x h
    have h : rd_impl_runPair_l0 s = some x := h
    unfold rd_impl_runPair_l0 at h
    repeat' split at h
    all_goals cases h
    exact ⟨absS_cons (by assumption) rfl (absS_cons (by assumption) rfl (absS_cons (by assumption) rfl (absS_cons (by assumption) rfl (rfl)))), absE_cons rfl (by assumption) rfl (absE_cons rfl (by assumption) rfl (rfl))⟩
  · intro x; obtain ⟨y0, y1, y2, y3⟩ := x; kernel_rfl
  · intro x z; obtain ⟨y0, y1, y2, y3⟩ := x; exact (And.intro (And.intro trivial rfl) trivial)

def impl_runPair_0 (x0 : Int) (x1 : Int) (x2 : Int) (x3 : Int) (x4 : List (Int × Int × Bool × Bool)) : Int :=
  bif decide ((↑(List.length x4) : Int) > (200 : Int)) then (3 : Int)
  else
  bif bif !impl_IsPair_0 x0 x1 x2 x3 then true else slices_ContainsFunc_impl_PairEvent_impl_runPair_1_0 x4 then (1 : Int)
  else
    bif Nat.beq (Prod.fst (Lp.res lp_impl_runPair_l0 ((0 : Int), (↑(List.length x4) : Int), x4, [((x0, x1), x2, x3)]))) (0 : Nat) then (5 : Int)
    else (0 : Int)

def impl_runPair_1 (x0 : Int) (x1 : Int) (x2 : Int) (x3 : Int) (x4 : List (Int × Int × Bool × Bool)) : List ((Int × Int) × (Int × Int)) :=
  bif decide ((↑(List.length x4) : Int) > (200 : Int)) then []
  else
  bif bif !impl_IsPair_0 x0 x1 x2 x3 then true else slices_ContainsFunc_impl_PairEvent_impl_runPair_1_0 x4 then []
  else
    bif Nat.beq (Prod.fst (Lp.res lp_impl_runPair_l0 ((0 : Int), (↑(List.length x4) : Int), x4, [((x0, x1), x2, x3)]))) (0 : Nat) then []
    else Prod.snd (Prod.snd (Prod.snd (Prod.snd (Lp.res lp_impl_runPair_l0 ((0 : Int), (↑(List.length x4) : Int), x4, [((x0, x1), x2, x3)])))))

def impl_runPair_2 (x0 : Int) (x1 : Int) (x2 : Int) (x3 : Int) (x4 : List (Int × Int × Bool × Bool)) : Bool :=
  allT
  [decide ((↑(List.length x4) : Int) > (200 : Int)) ||
      (!(!!impl_IsPair_0 x0 x1 x2 x3 && true) || slices_ContainsFunc_impl_PairEvent_impl_runPair_1_1 x4),
    decide ((↑(List.length x4) : Int) > (200 : Int)) ||
      ((bif !impl_IsPair_0 x0 x1 x2 x3 then true else slices_ContainsFunc_impl_PairEvent_impl_runPair_1_0 x4) ||
        Lp.fin lp_impl_runPair_l0 ((0 : Int), (↑(List.length x4) : Int), x4, [((x0, x1), x2, x3)]))]

def F_impl_runPair : List SV → List Entry → Option Out
  | [.one ⟨true, [.val (.int .i64 x0), .val (.int .i64 x1), .val (.int .i64 x2), .val (.int .i64 x3)]⟩, .one ⟨false, [.ref 0]⟩], [.row false 48 (.pair (.int .i64) (.pair (.int .i64) (.pair (.bool) (.bool)))) x4] => some ⟨(.tup [⟨false, [(.ref 1)]⟩, ⟨false, [(.val (.int IntKind.i64 (impl_runPair_0 x0 x1 x2 x3 x4)))]⟩]), [(.row false 48 (CTy.pair (CTy.int IntKind.i64) (CTy.pair (CTy.int IntKind.i64) (CTy.pair CTy.bool CTy.bool))) x4)], [(.row true 30 (CTy.pair (CTy.pair (CTy.int IntKind.i64) (CTy.int IntKind.i64)) (CTy.pair (CTy.int IntKind.i64) (CTy.int IntKind.i64))) (impl_runPair_1 x0 x1 x2 x3 x4))], [(impl_runPair_2 x0 x1 x2 x3 x4)]⟩
  | _, _ => none

def p_impl_runPair : PF Try.prog := PF.ofG Try.prog [p_impl_IsPair, p_loop_example_g00916_impl_Pair_step, p_slices_ContainsFunc_impl_PairEvent_impl_runPair_1, PF.lend p_slices_ContainsFunc_impl_PairEvent_impl_runPair_1, PF.fz p_slices_ContainsFunc_impl_PairEvent_impl_runPair_1, p_impl_runPair_1] [lp_impl_runPair_l0.F] hmix 67 Try.f67 Try.func67 (LOk.fnT (l := [loopAt Try.f67 0]) (by kernel_rfl) (.cons lpok_impl_runPair_l0 (.nil _))) F_impl_runPair (by
  intro vs es r h; unfold F_impl_runPair at h; split at h
  · cases h; kernel_rfl
  · cases h)

def impl_RunPair_0 (x0 : Int) (x1 : Int) (x2 : Int) (x3 : Int) (x4 : List (Int × Int × Bool × Bool)) : Int :=
  bif impl_runPair_0 x0 x1 x2 x3 x4 != (0 : Int) then (0 : Int)
  else
  Prod.fst
    (Prod.fst (Option.getD (impl_runPair_1 x0 x1 x2 x3 x4)[Int.toNat (↑(List.length x4) : Int)]? (((0 : Int), (0 : Int)), (0 : Int), (0 : Int))))

def impl_RunPair_1 (x0 : Int) (x1 : Int) (x2 : Int) (x3 : Int) (x4 : List (Int × Int × Bool × Bool)) : Int :=
  bif impl_runPair_0 x0 x1 x2 x3 x4 != (0 : Int) then (0 : Int)
  else
  Prod.snd
    (Prod.fst (Option.getD (impl_runPair_1 x0 x1 x2 x3 x4)[Int.toNat (↑(List.length x4) : Int)]? (((0 : Int), (0 : Int)), (0 : Int), (0 : Int))))

def impl_RunPair_2 (x0 : Int) (x1 : Int) (x2 : Int) (x3 : Int) (x4 : List (Int × Int × Bool × Bool)) : Int :=
  bif impl_runPair_0 x0 x1 x2 x3 x4 != (0 : Int) then (0 : Int)
  else
  Prod.fst
    (Prod.snd (Option.getD (impl_runPair_1 x0 x1 x2 x3 x4)[Int.toNat (↑(List.length x4) : Int)]? (((0 : Int), (0 : Int)), (0 : Int), (0 : Int))))

def impl_RunPair_3 (x0 : Int) (x1 : Int) (x2 : Int) (x3 : Int) (x4 : List (Int × Int × Bool × Bool)) : Int :=
  bif impl_runPair_0 x0 x1 x2 x3 x4 != (0 : Int) then (0 : Int)
  else
  Prod.snd
    (Prod.snd (Option.getD (impl_runPair_1 x0 x1 x2 x3 x4)[Int.toNat (↑(List.length x4) : Int)]? (((0 : Int), (0 : Int)), (0 : Int), (0 : Int))))

def impl_RunPair_4 (x0 : Int) (x1 : Int) (x2 : Int) (x3 : Int) (x4 : List (Int × Int × Bool × Bool)) : Int :=
  bif impl_runPair_0 x0 x1 x2 x3 x4 != (0 : Int) then impl_runPair_0 x0 x1 x2 x3 x4 else (0 : Int)

def impl_RunPair_5 (x0 : Int) (x1 : Int) (x2 : Int) (x3 : Int) (x4 : List (Int × Int × Bool × Bool)) : Bool :=
  allT
  [impl_runPair_2 x0 x1 x2 x3 x4, impl_runPair_0 x0 x1 x2 x3 x4 != (0 : Int) || decide ((0 : Int) ≤ (↑(List.length x4) : Int)),
    impl_runPair_0 x0 x1 x2 x3 x4 != (0 : Int) || decide ((↑(List.length x4) : Int) < (↑(List.length (impl_runPair_1 x0 x1 x2 x3 x4)) : Int)),
    impl_runPair_0 x0 x1 x2 x3 x4 != (0 : Int) || decide (Int.toNat (↑(List.length x4) : Int) < List.length (impl_runPair_1 x0 x1 x2 x3 x4))]

def F_impl_RunPair : List SV → List Entry → Option Out
  | [.one ⟨true, [.val (.int .i64 x0), .val (.int .i64 x1), .val (.int .i64 x2), .val (.int .i64 x3)]⟩, .one ⟨false, [.ref 0]⟩], [.row false 48 (.pair (.int .i64) (.pair (.int .i64) (.pair (.bool) (.bool)))) x4] => some ⟨(.tup [⟨true, [(.val (.int IntKind.i64 (impl_RunPair_0 x0 x1 x2 x3 x4))), (.val (.int IntKind.i64 (impl_RunPair_1 x0 x1 x2 x3 x4))), (.val (.int IntKind.i64 (impl_RunPair_2 x0 x1 x2 x3 x4))), (.val (.int IntKind.i64 (impl_RunPair_3 x0 x1 x2 x3 x4)))]⟩, ⟨false, [(.val (.int IntKind.i64 (impl_RunPair_4 x0 x1 x2 x3 x4)))]⟩]), [(.row false 48 (CTy.pair (CTy.int IntKind.i64) (CTy.pair (CTy.int IntKind.i64) (CTy.pair CTy.bool CTy.bool))) x4)], [], [(impl_RunPair_5 x0 x1 x2 x3 x4)]⟩
  | _, _ => none

def p_impl_RunPair : PF Try.prog := PF.ofG Try.prog [p_impl_runPair, PF.lend p_impl_runPair, PF.fz p_impl_runPair] [] hmix 28 Try.f28 Try.func28 (fun c _ => LOk.nil c) F_impl_RunPair (by
  intro vs es r h; unfold F_impl_RunPair at h; split at h
  · cases h; kernel_rfl
  · cases h)

def impl_StepPair_0 (x0 : Int) (x1 : Int) (x2 : Int) (x3 : Int) (x4 : Int) (x5 : Int) (x6 : Bool) (x7 : Bool) : Int :=
  impl_RunPair_0 x0 x1 x2 x3 [(x4, x5, x6, x7)]

def impl_StepPair_1 (x0 : Int) (x1 : Int) (x2 : Int) (x3 : Int) (x4 : Int) (x5 : Int) (x6 : Bool) (x7 : Bool) : Int :=
  impl_RunPair_1 x0 x1 x2 x3 [(x4, x5, x6, x7)]

def impl_StepPair_2 (x0 : Int) (x1 : Int) (x2 : Int) (x3 : Int) (x4 : Int) (x5 : Int) (x6 : Bool) (x7 : Bool) : Int :=
  impl_RunPair_2 x0 x1 x2 x3 [(x4, x5, x6, x7)]

def impl_StepPair_3 (x0 : Int) (x1 : Int) (x2 : Int) (x3 : Int) (x4 : Int) (x5 : Int) (x6 : Bool) (x7 : Bool) : Int :=
  impl_RunPair_3 x0 x1 x2 x3 [(x4, x5, x6, x7)]

def impl_StepPair_4 (x0 : Int) (x1 : Int) (x2 : Int) (x3 : Int) (x4 : Int) (x5 : Int) (x6 : Bool) (x7 : Bool) : Int :=
  impl_RunPair_4 x0 x1 x2 x3 [(x4, x5, x6, x7)]

def impl_StepPair_5 (x0 : Int) (x1 : Int) (x2 : Int) (x3 : Int) (x4 : Int) (x5 : Int) (x6 : Bool) (x7 : Bool) : Bool :=
  allT [impl_RunPair_5 x0 x1 x2 x3 [(x4, x5, x6, x7)]]

def F_impl_StepPair : List SV → List Entry → Option Out
  | [.one ⟨true, [.val (.int .i64 x0), .val (.int .i64 x1), .val (.int .i64 x2), .val (.int .i64 x3)]⟩, .one ⟨true, [.val (.int .i64 x4), .val (.int .i64 x5), .val (.bool x6), .val (.bool x7)]⟩], [] => some ⟨(.tup [⟨true, [(.val (.int IntKind.i64 (impl_StepPair_0 x0 x1 x2 x3 x4 x5 x6 x7))), (.val (.int IntKind.i64 (impl_StepPair_1 x0 x1 x2 x3 x4 x5 x6 x7))), (.val (.int IntKind.i64 (impl_StepPair_2 x0 x1 x2 x3 x4 x5 x6 x7))), (.val (.int IntKind.i64 (impl_StepPair_3 x0 x1 x2 x3 x4 x5 x6 x7)))]⟩, ⟨false, [(.val (.int IntKind.i64 (impl_StepPair_4 x0 x1 x2 x3 x4 x5 x6 x7)))]⟩]), [], [], [(impl_StepPair_5 x0 x1 x2 x3 x4 x5 x6 x7)]⟩
  | _, _ => none

def p_impl_StepPair : PF Try.prog := PF.ofG Try.prog [p_impl_RunPair, PF.lend p_impl_RunPair, PF.fz p_impl_RunPair] [] hmix 24 Try.f24 Try.func24 (fun c _ => LOk.nil c) F_impl_StepPair (by
  intro vs es r h; unfold F_impl_StepPair at h; split at h
  · cases h; kernel_rfl
  · cases h)

def laws_eqController_0 (x0 : Int) (x1 : Int) (x2 : Int) (x3 : Int) : Bool :=
  bif x0 != x2 then false else bif x1 != x3 then false else true

def F_laws_eqController : List SV → List Entry → Option Out
  | [.one ⟨true, [.val (.int .i64 x0), .val (.int .i64 x1)]⟩, .one ⟨true, [.val (.int .i64 x2), .val (.int .i64 x3)]⟩], [] => some ⟨(.one ⟨false, [(.val (.bool (laws_eqController_0 x0 x1 x2 x3)))]⟩), [], [], []⟩
  | _, _ => none

def p_laws_eqController : PF Try.prog := PF.ofG Try.prog [] [] hmix 64 Try.f64 Try.func64 (fun c _ => LOk.nil c) F_laws_eqController (by
  intro vs es r h; unfold F_laws_eqController at h; split at h
  · cases h; kernel_rfl
  · cases h)

def laws_eqPair_0 (x0 : Int) (x1 : Int) (x2 : Int) (x3 : Int) (x4 : Int) (x5 : Int) (x6 : Int) (x7 : Int) : Bool :=
  bif !laws_eqController_0 x0 x1 x4 x5 then false else bif !laws_eqController_0 x2 x3 x6 x7 then false else true

def F_laws_eqPair : List SV → List Entry → Option Out
  | [.one ⟨true, [.val (.int .i64 x0), .val (.int .i64 x1), .val (.int .i64 x2), .val (.int .i64 x3)]⟩, .one ⟨true, [.val (.int .i64 x4), .val (.int .i64 x5), .val (.int .i64 x6), .val (.int .i64 x7)]⟩], [] => some ⟨(.one ⟨false, [(.val (.bool (laws_eqPair_0 x0 x1 x2 x3 x4 x5 x6 x7)))]⟩), [], [], []⟩
  | _, _ => none

def p_laws_eqPair : PF Try.prog := PF.ofG Try.prog [p_laws_eqController] [] hmix 25 Try.f25 Try.func25 (fun c _ => LOk.nil c) F_laws_eqPair (by
  intro vs es r h; unfold F_laws_eqPair at h; split at h
  · cases h; kernel_rfl
  · cases h)

def laws_FnExactStepPair_0 (x0 : Int) (x1 : Int) (x2 : Int) (x3 : Int) (x4 : Int) (x5 : Int) (x6 : Bool) (x7 : Bool) : Bool :=
  bif
    bif
        !laws_eqPair_0 (impl_StepPair_0 x0 x1 x2 x3 x4 x5 x6 x7) (impl_StepPair_1 x0 x1 x2 x3 x4 x5 x6 x7) (impl_StepPair_2 x0 x1 x2 x3 x4 x5 x6 x7)
            (impl_StepPair_3 x0 x1 x2 x3 x4 x5 x6 x7) (spec_StepPair_0 x0 x1 x2 x3 x4 x5 x6 x7) (spec_StepPair_1 x0 x1 x2 x3 x4 x5 x6 x7)
            (spec_StepPair_2 x0 x1 x2 x3 x4 x5 x6 x7) (spec_StepPair_3 x0 x1 x2 x3 x4 x5 x6 x7) then
      true
    else impl_StepPair_4 x0 x1 x2 x3 x4 x5 x6 x7 != spec_StepPair_4 x0 x1 x2 x3 x4 x5 x6 x7 then
  false
  else true

def laws_FnExactStepPair_1 (x0 : Int) (x1 : Int) (x2 : Int) (x3 : Int) (x4 : Int) (x5 : Int) (x6 : Bool) (x7 : Bool) : Bool :=
  allT [spec_StepPair_5 x0 x1 x2 x3 x4 x5 x6 x7, impl_StepPair_5 x0 x1 x2 x3 x4 x5 x6 x7]

def F_laws_FnExactStepPair : List SV → List Entry → Option Out
  | [.one ⟨true, [.val (.int .i64 x0), .val (.int .i64 x1), .val (.int .i64 x2), .val (.int .i64 x3)]⟩, .one ⟨true, [.val (.int .i64 x4), .val (.int .i64 x5), .val (.bool x6), .val (.bool x7)]⟩], [] => some ⟨(.one ⟨false, [(.val (.bool (laws_FnExactStepPair_0 x0 x1 x2 x3 x4 x5 x6 x7)))]⟩), [], [], [(laws_FnExactStepPair_1 x0 x1 x2 x3 x4 x5 x6 x7)]⟩
  | _, _ => none

def p_laws_FnExactStepPair : PF Try.prog := PF.ofG Try.prog [p_laws_toPair, p_spec_StepPair, p_laws_toPairEvent, p_impl_StepPair, p_laws_eqPair] [] hmix 5 Try.f5 Try.func5 (fun c _ => LOk.nil c) F_laws_FnExactStepPair (by
  intro vs es r h; unfold F_laws_FnExactStepPair at h; split at h
  · cases h; kernel_rfl
  · cases h)

def laws_szPairEventS_0 (x0 : List (Int × Int × Bool × Bool)) (x1 : Int) : Int :=
  bif decide (IntKind.wrap IntKind.i64 (x1 - (↑(List.length x0) : Int)) < (0 : Int)) then (-1 : Int)
  else IntKind.wrap IntKind.i64 (x1 - (↑(List.length x0) : Int))

def F_laws_szPairEventS : List SV → List Entry → Option Out
  | [.one ⟨false, [.ref 0]⟩, .one ⟨false, [.val (.int .i64 x1)]⟩], [.row false 45 (.pair (.int .i64) (.pair (.int .i64) (.pair (.bool) (.bool)))) x0] => some ⟨(.one ⟨false, [(.val (.int IntKind.i64 (laws_szPairEventS_0 x0 x1)))]⟩), [(.row false 45 (CTy.pair (CTy.int IntKind.i64) (CTy.pair (CTy.int IntKind.i64) (CTy.pair CTy.bool CTy.bool))) x0)], [], []⟩
  | _, _ => none

def p_laws_szPairEventS : PF Try.prog := PF.ofG Try.prog [] [] hmix 30 Try.f30 Try.func30 (fun c _ => LOk.nil c) F_laws_szPairEventS (by
  intro vs es r h; unfold F_laws_szPairEventS at h; split at h
  · cases h; kernel_rfl
  · cases h)

def spec_l31Lost_0 (x0 : Int) (x1 : Bool) : Int :=
  bif x1 then IntKind.wrap IntKind.i64 (x0 + (1 : Int)) else (0 : Int)

def F_spec_l31Lost : List SV → List Entry → Option Out
  | [.one ⟨false, [.val (.int .i64 x0)]⟩, .one ⟨false, [.val (.bool x1)]⟩], [] => some ⟨(.one ⟨false, [(.val (.int IntKind.i64 (spec_l31Lost_0 x0 x1)))]⟩), [], [], []⟩
  | _, _ => none

def p_spec_l31Lost : PF Try.prog := PF.ofG Try.prog [] [] hmix 68 Try.f68 Try.func68 (fun c _ => LOk.nil c) F_spec_l31Lost (by
  intro vs es r h; unfold F_spec_l31Lost at h; split at h
  · cases h; kernel_rfl
  · cases h)

abbrev X_spec_AreAdmitted_l0 := Int × Int × Int × List (Int × (Int × (Bool × Bool))) × Int × Int × Int × Int

def spec_AreAdmitted_l0_0 (y0 : Int) (y3 : List (Int × (Int × (Bool × Bool)))) : Bool :=
  decide (y0 < (↑(List.length y3) : Int))

def spec_AreAdmitted_l0_1 (y0 : Int) : Bool :=
  decide ((0 : Int) ≤ y0)

def spec_AreAdmitted_l0_2 (y0 : Int) (y3 : List (Int × (Int × (Bool × Bool)))) : Bool :=
  decide (Int.toNat y0 < List.length y3)

def spec_AreAdmitted_l0_3 (y0 : Int) (y3 : List (Int × (Int × (Bool × Bool)))) : Bool :=
  !spec_IsPairEvent_0 (Prod.fst (Option.getD y3[Int.toNat y0]? ((0 : Int), (0 : Int), false, false)))
    (Prod.fst (Prod.snd (Option.getD y3[Int.toNat y0]? ((0 : Int), (0 : Int), false, false))))
    (Prod.fst (Prod.snd (Prod.snd (Option.getD y3[Int.toNat y0]? ((0 : Int), (0 : Int), false, false)))))
    (Prod.snd (Prod.snd (Prod.snd (Option.getD y3[Int.toNat y0]? ((0 : Int), (0 : Int), false, false)))))

def spec_AreAdmitted_l0_4 (y0 : Int) (y3 : List (Int × (Int × (Bool × Bool)))) (y4 : Int) (y6 : Int) : Bool :=
  bif !bif spec_l31Up_0 y4 then spec_l31Up_0 y6 else false then
  bif Prod.fst (Prod.snd (Prod.snd (Option.getD y3[Int.toNat y0]? ((0 : Int), (0 : Int), false, false)))) then true
  else Prod.snd (Prod.snd (Prod.snd (Option.getD y3[Int.toNat y0]? ((0 : Int), (0 : Int), false, false))))
  else false

def spec_AreAdmitted_l0_5 (y0 : Int) (y1 : Int) (y2 : Int) (y3 : List (Int × (Int × (Bool × Bool)))) (y4 : Int) (y6 : Int) : Bool :=
  bif
    bif
        !spec_l31Step_4 y4 y6 (Prod.fst (Option.getD y3[Int.toNat y0]? ((0 : Int), (0 : Int), false, false)))
            (Prod.fst (Prod.snd (Option.getD y3[Int.toNat y0]? ((0 : Int), (0 : Int), false, false)))) then
      true
    else
      decide
        (spec_l31Lost_0 y1 (Prod.fst (Prod.snd (Prod.snd (Option.getD y3[Int.toNat y0]? ((0 : Int), (0 : Int), false, false))))) > (2 : Int)) then
  true
  else decide (spec_l31Lost_0 y2 (Prod.snd (Prod.snd (Prod.snd (Option.getD y3[Int.toNat y0]? ((0 : Int), (0 : Int), false, false))))) > (2 : Int))

def spec_AreAdmitted_l0_6 (y0 : Int) : Int :=
  IntKind.wrap IntKind.i64 (y0 + (1 : Int))

def spec_AreAdmitted_l0_7 (y0 : Int) (y1 : Int) (y3 : List (Int × (Int × (Bool × Bool)))) : Int :=
  spec_l31Lost_0 y1 (Prod.fst (Prod.snd (Prod.snd (Option.getD y3[Int.toNat y0]? ((0 : Int), (0 : Int), false, false)))))

def spec_AreAdmitted_l0_8 (y0 : Int) (y2 : Int) (y3 : List (Int × (Int × (Bool × Bool)))) : Int :=
  spec_l31Lost_0 y2 (Prod.snd (Prod.snd (Prod.snd (Option.getD y3[Int.toNat y0]? ((0 : Int), (0 : Int), false, false)))))

def spec_AreAdmitted_l0_9 (y0 : Int) (y3 : List (Int × (Int × (Bool × Bool)))) (y4 : Int) (y5 : Int) (y6 : Int) (y7 : Int) : Int :=
  spec_l31Step_0 y4 y5 y6 y7 (Prod.fst (Option.getD y3[Int.toNat y0]? ((0 : Int), (0 : Int), false, false)))
  (Prod.fst (Prod.snd (Option.getD y3[Int.toNat y0]? ((0 : Int), (0 : Int), false, false))))
  (Prod.snd (Prod.snd (Prod.snd (Option.getD y3[Int.toNat y0]? ((0 : Int), (0 : Int), false, false)))))

def spec_AreAdmitted_l0_10 (y0 : Int) (y3 : List (Int × (Int × (Bool × Bool)))) (y4 : Int) (y5 : Int) (y6 : Int) : Int :=
  spec_l31Step_1 y4 y5 y6 (Prod.fst (Option.getD y3[Int.toNat y0]? ((0 : Int), (0 : Int), false, false)))
  (Prod.fst (Prod.snd (Option.getD y3[Int.toNat y0]? ((0 : Int), (0 : Int), false, false))))
  (Prod.snd (Prod.snd (Prod.snd (Option.getD y3[Int.toNat y0]? ((0 : Int), (0 : Int), false, false)))))

def spec_AreAdmitted_l0_11 (y0 : Int) (y3 : List (Int × (Int × (Bool × Bool)))) (y4 : Int) (y5 : Int) (y6 : Int) (y7 : Int) : Int :=
  spec_l31Step_2 y4 y5 y6 y7 (Prod.fst (Option.getD y3[Int.toNat y0]? ((0 : Int), (0 : Int), false, false)))
  (Prod.fst (Prod.snd (Option.getD y3[Int.toNat y0]? ((0 : Int), (0 : Int), false, false))))
  (Prod.fst (Prod.snd (Prod.snd (Option.getD y3[Int.toNat y0]? ((0 : Int), (0 : Int), false, false)))))

def spec_AreAdmitted_l0_12 (y0 : Int) (y3 : List (Int × (Int × (Bool × Bool)))) (y4 : Int) (y6 : Int) (y7 : Int) : Int :=
  spec_l31Step_3 y4 y6 y7 (Prod.fst (Option.getD y3[Int.toNat y0]? ((0 : Int), (0 : Int), false, false)))
  (Prod.fst (Prod.snd (Option.getD y3[Int.toNat y0]? ((0 : Int), (0 : Int), false, false))))
  (Prod.fst (Prod.snd (Prod.snd (Option.getD y3[Int.toNat y0]? ((0 : Int), (0 : Int), false, false)))))

def JL_spec_AreAdmitted_l0 : X_spec_AreAdmitted_l0 → List (Nat × SV)
  | (y0, y1, y2, _, _, _, _, _) => [(6, (.one ⟨false, [(.val (.int IntKind.i64 y0))]⟩)), (0, (.one ⟨false, [(.ref 0)]⟩)), (3, (.one ⟨false, [(.ptr 1 0)]⟩)), (4, (.one ⟨false, [(.val (.int IntKind.i64 y1))]⟩)), (5, (.one ⟨false, [(.val (.int IntKind.i64 y2))]⟩))]

def JE_spec_AreAdmitted_l0 : X_spec_AreAdmitted_l0 → List (Nat × Entry)
  | (_, _, _, y3, y4, y5, y6, y7) => [(0, (.row false 48 (CTy.pair (CTy.int IntKind.i64) (CTy.pair (CTy.int IntKind.i64) (CTy.pair CTy.bool CTy.bool))) y3)), (1, (.box 30 [(.val (.int IntKind.i64 y4)), (.val (.int IntKind.i64 y5)), (.val (.int IntKind.i64 y6)), (.val (.int IntKind.i64 y7))]))]

def XL_spec_AreAdmitted_l0 : Nat → X_spec_AreAdmitted_l0 → List (Nat × SV)
  | 0, (_, _, _, _, _, _, _, _) => [(2, (.one ⟨false, [(.val (.bool false))]⟩))]
  | 1, (_, _, _, _, _, _, _, _) => [(2, (.one ⟨false, [(.val (.bool false))]⟩))]
  | 2, (_, _, _, _, _, _, _, _) => [(2, (.one ⟨false, [(.val (.bool false))]⟩))]
  | _, (_, _, _, _, _, _, _, _) => []

def XE_spec_AreAdmitted_l0 : Nat → X_spec_AreAdmitted_l0 → List (Nat × Entry)
  | 0, (_, _, _, y3, y4, y5, y6, y7) => [(0, (.row false 48 (CTy.pair (CTy.int IntKind.i64) (CTy.pair (CTy.int IntKind.i64) (CTy.pair CTy.bool CTy.bool))) y3)), (1, (.box 30 [(.val (.int IntKind.i64 y4)), (.val (.int IntKind.i64 y5)), (.val (.int IntKind.i64 y6)), (.val (.int IntKind.i64 y7))]))]
  | 1, (_, _, _, y3, y4, y5, y6, y7) => [(0, (.row false 48 (CTy.pair (CTy.int IntKind.i64) (CTy.pair (CTy.int IntKind.i64) (CTy.pair CTy.bool CTy.bool))) y3)), (1, (.box 30 [(.val (.int IntKind.i64 y4)), (.val (.int IntKind.i64 y5)), (.val (.int IntKind.i64 y6)), (.val (.int IntKind.i64 y7))]))]
  | 2, (_, _, _, y3, y4, y5, y6, y7) => [(0, (.row false 48 (CTy.pair (CTy.int IntKind.i64) (CTy.pair (CTy.int IntKind.i64) (CTy.pair CTy.bool CTy.bool))) y3)), (1, (.box 30 [(.val (.int IntKind.i64 y4)), (.val (.int IntKind.i64 y5)), (.val (.int IntKind.i64 y6)), (.val (.int IntKind.i64 y7))]))]
  | _, (_, _, _, y3, y4, y5, y6, y7) => [(0, (.row false 48 (CTy.pair (CTy.int IntKind.i64) (CTy.pair (CTy.int IntKind.i64) (CTy.pair CTy.bool CTy.bool))) y3)), (1, (.box 30 [(.val (.int IntKind.i64 y4)), (.val (.int IntKind.i64 y5)), (.val (.int IntKind.i64 y6)), (.val (.int IntKind.i64 y7))]))]

def lt_spec_AreAdmitted_l0 : X_spec_AreAdmitted_l0 → LT X_spec_AreAdmitted_l0
  | (y0, y1, y2, y3, y4, y5, y6, y7) => .ite (spec_AreAdmitted_l0_0 y0 y3) (.need [(spec_AreAdmitted_l0_1 y0), (spec_AreAdmitted_l0_0 y0 y3), (spec_AreAdmitted_l0_2 y0 y3)] (.ite (spec_AreAdmitted_l0_3 y0 y3) (.ext 0 [(0, 0), (1, 1)]) (.ite (spec_AreAdmitted_l0_4 y0 y3 y4 y6) (.ext 1 [(0, 0), (1, 1)]) (.ite (spec_AreAdmitted_l0_5 y0 y1 y2 y3 y4 y6) (.ext 2 [(0, 0), (1, 1)]) (.nrm ((spec_AreAdmitted_l0_6 y0), (spec_AreAdmitted_l0_7 y0 y1 y3), (spec_AreAdmitted_l0_8 y0 y2 y3), y3, (spec_AreAdmitted_l0_9 y0 y3 y4 y5 y6 y7), (spec_AreAdmitted_l0_10 y0 y3 y4 y5 y6), (spec_AreAdmitted_l0_11 y0 y3 y4 y5 y6 y7), (spec_AreAdmitted_l0_12 y0 y3 y4 y6 y7)) [(0, 0), (1, 1)]))))) (.ext 3 [(0, 0), (1, 1)])

def rd_spec_AreAdmitted_l0 (s : St) : Option X_spec_AreAdmitted_l0 :=
  (match s.look 6 with
  | some ⟨none, (.one ⟨false, [(.val (.int IntKind.i64 y0))]⟩)⟩ =>
  (match s.look 0 with
  | some ⟨none, (.one ⟨false, [(.ref 0)]⟩)⟩ =>
  (match s.look 3 with
  | some ⟨none, (.one ⟨false, [(.ptr 448 0)]⟩)⟩ =>
  (match s.look 4 with
  | some ⟨none, (.one ⟨false, [(.val (.int IntKind.i64 y1))]⟩)⟩ =>
  (match s.look 5 with
  | some ⟨none, (.one ⟨false, [(.val (.int IntKind.i64 y2))]⟩)⟩ =>
  (match s.ent 0 with
  | some (.row false 48 (CTy.pair (CTy.int IntKind.i64) (CTy.pair (CTy.int IntKind.i64) (CTy.pair CTy.bool CTy.bool))) y3) =>
  (match s.ent 448 with
  | some (.box 30 [(.val (.int IntKind.i64 y4)), (.val (.int IntKind.i64 y5)), (.val (.int IntKind.i64 y6)), (.val (.int IntKind.i64 y7))]) =>
  some (y0, y1, y2, y3, y4, y5, y6, y7)
  | _ => none)
  | _ => none)
  | _ => none)
  | _ => none)
  | _ => none)
  | _ => none)
  | _ => none)

def lp_spec_AreAdmitted_l0 : Lp X_spec_AreAdmitted_l0 where
  h := ⟨[15, 16, 17, 18, 21, 22, 23, 24, 7, 25, 26, 27, 2, 28, 29, 30, 31, 32, 33, 34, 35, 8, 36, 37, 38, 39, 40, 41, 42, 43, 44, 45, 46, 47, 48, 49, 50, 51, 52, 53, 4, 5, 55, 56, 57, 54, 58, 59, 9, 10, 60, 61, 62, 63, 64, 65, 66, 67, 68, 69, 70, 19, 20, 6], [0, 1], [], []⟩
  JL := JL_spec_AreAdmitted_l0
  JE := JE_spec_AreAdmitted_l0
  XL := XL_spec_AreAdmitted_l0
  XE := XE_spec_AreAdmitted_l0
  q := fun j => match j with | 0 => .ret | 1 => .ret | 2 => .ret | _ => .exit 0
  tags := [0, 1, 2, 3]
  lt := lt_spec_AreAdmitted_l0
  fuel := fun (y0, y1, y2, y3, y4, y5, y6, y7) => y0.natAbs + y1.natAbs + y2.natAbs + y3.length + y4.natAbs + y5.natAbs + y6.natAbs + y7.natAbs
  fix := fun (_, _, _, y3, _, _, _, _) (y0, y1, y2, _, y4, y5, y6, y7) => (y0, y1, y2, y3, y4, y5, y6, y7)
  σ := [(0, 0), (1, 448)]
  rd := rd_spec_AreAdmitted_l0

theorem lpok_spec_AreAdmitted_l0 : LoopOk Try.prog (fun k => Nat.blt k Try.f31.ntmps) lp_spec_AreAdmitted_l0.F (loopAt Try.f31 0) := by
  refine Lp.ok (tbl := [p_spec_IsPairEvent, p_spec_l31Up, p_spec_l31Step, p_spec_l31Lost]) (lf := []) hmix lp_spec_AreAdmitted_l0 (by kernel_rfl) (LOk.nil _) (fun _ => rfl) (fun j _ => by unfold lp_spec_AreAdmitted_l0; match j with | 0 => rfl | 1 => rfl | 2 => rfl | _ + 3 => rfl) ?_ ?_ ?_ ?_ (fun _ => rfl) ?_
  · intro x; obtain ⟨y0, y1, y2, y3, y4, y5, y6, y7⟩ := x; kernel_rfl
  · intro x; obtain ⟨y0, y1, y2, y3, y4, y5, y6, y7⟩ := x; kernel_rfl
  · intro s x h
    have h : rd_spec_AreAdmitted_l0 s = some x := h
    unfold rd_spec_AreAdmitted_l0 at h
    repeat' split at h
    all_goals cases h
    exact ⟨absS_cons (by assumption) rfl (absS_cons (by assumption) rfl (absS_cons (by assumption) rfl (absS_cons (by assumption) rfl (absS_cons (by assumption) rfl (rfl))))), absE_cons rfl (by assumption) rfl (absE_cons rfl (by assumption) rfl (rfl))⟩
  · intro x; obtain ⟨y0, y1, y2, y3, y4, y5, y6, y7⟩ := x; kernel_rfl
  · intro x z; obtain ⟨y0, y1, y2, y3, y4, y5, y6, y7⟩ := x; exact (And.intro (And.intro trivial (And.intro trivial (And.intro trivial rfl))) trivial)

def spec_AreAdmitted_0 (x0 : List (Int × Int × Bool × Bool)) : Bool :=
  bif decide ((↑(List.length x0) : Int) > (200 : Int)) then false
  else
  bif
      Nat.beq (Prod.fst (Lp.res lp_spec_AreAdmitted_l0 ((0 : Int), (0 : Int), (0 : Int), x0, (0 : Int), (0 : Int), (0 : Int), (0 : Int))))
        (0 : Nat) then
    false
  else
    bif
        Nat.beq (Prod.fst (Lp.res lp_spec_AreAdmitted_l0 ((0 : Int), (0 : Int), (0 : Int), x0, (0 : Int), (0 : Int), (0 : Int), (0 : Int))))
          (1 : Nat) then
      false
    else
      bif
          Nat.beq (Prod.fst (Lp.res lp_spec_AreAdmitted_l0 ((0 : Int), (0 : Int), (0 : Int), x0, (0 : Int), (0 : Int), (0 : Int), (0 : Int))))
            (2 : Nat) then
        false
      else true

def spec_AreAdmitted_1 (x0 : List (Int × Int × Bool × Bool)) : Bool :=
  allT
  [decide ((↑(List.length x0) : Int) > (200 : Int)) ||
      Lp.fin lp_spec_AreAdmitted_l0 ((0 : Int), (0 : Int), (0 : Int), x0, (0 : Int), (0 : Int), (0 : Int), (0 : Int))]

def F_spec_AreAdmitted : List SV → List Entry → Option Out
  | [.one ⟨false, [.ref 0]⟩], [.row false 48 (.pair (.int .i64) (.pair (.int .i64) (.pair (.bool) (.bool)))) x0] => some ⟨(.one ⟨false, [(.val (.bool (spec_AreAdmitted_0 x0)))]⟩), [(.row false 48 (CTy.pair (CTy.int IntKind.i64) (CTy.pair (CTy.int IntKind.i64) (CTy.pair CTy.bool CTy.bool))) x0)], [], [(spec_AreAdmitted_1 x0)]⟩
  | _, _ => none

def p_spec_AreAdmitted : PF Try.prog := PF.ofG Try.prog [p_spec_IsPairEvent, p_spec_l31Up, p_spec_l31Step, p_spec_l31Lost] [lp_spec_AreAdmitted_l0.F] hmix 31 Try.f31 Try.func31 (LOk.fnT (l := [loopAt Try.f31 0]) (by kernel_rfl) (.cons lpok_spec_AreAdmitted_l0 (.nil _))) F_spec_AreAdmitted (by
  intro vs es r h; unfold F_spec_AreAdmitted at h; split at h
  · cases h; kernel_rfl
  · cases h)

abbrev X_laws_toPairEventS_l0 := Int × List (Int × (Int × (Bool × Bool))) × List (Int × (Int × (Bool × Bool)))

def laws_toPairEventS_l0_0 (y0 : Int) (y1 : List (Int × (Int × (Bool × Bool)))) : Bool :=
  decide (y0 < (↑(List.length y1) : Int))

def laws_toPairEventS_l0_1 (y0 : Int) : Bool :=
  decide ((0 : Int) ≤ y0)

def laws_toPairEventS_l0_2 (y0 : Int) (y1 : List (Int × (Int × (Bool × Bool)))) : Bool :=
  decide (Int.toNat y0 < List.length y1)

def laws_toPairEventS_l0_3 (y0 : Int) (y2 : List (Int × (Int × (Bool × Bool)))) : Bool :=
  decide (y0 < (↑(List.length y2) : Int))

def laws_toPairEventS_l0_4 (y0 : Int) (y2 : List (Int × (Int × (Bool × Bool)))) : Bool :=
  decide (Int.toNat y0 < List.length y2)

def laws_toPairEventS_l0_5 (y0 : Int) : Int :=
  IntKind.wrap IntKind.i64 (y0 + (1 : Int))

def laws_toPairEventS_l0_6 (y0 : Int) (y1 : List (Int × (Int × (Bool × Bool)))) (y2 : List (Int × (Int × (Bool × Bool)))) : List (Int × (Int × (Bool × Bool))) :=
  List.set y2 (Int.toNat y0)
  (Prod.fst (Option.getD y1[Int.toNat y0]? ((0 : Int), (0 : Int), false, false)),
    Prod.fst (Prod.snd (Option.getD y1[Int.toNat y0]? ((0 : Int), (0 : Int), false, false))),
    Prod.fst (Prod.snd (Prod.snd (Option.getD y1[Int.toNat y0]? ((0 : Int), (0 : Int), false, false)))),
    Prod.snd (Prod.snd (Prod.snd (Option.getD y1[Int.toNat y0]? ((0 : Int), (0 : Int), false, false)))))

def JL_laws_toPairEventS_l0 : X_laws_toPairEventS_l0 → List (Nat × SV)
  | (y0, _, _) => [(4, (.one ⟨false, [(.val (.int IntKind.i64 y0))]⟩)), (0, (.one ⟨false, [(.ref 0)]⟩)), (3, (.one ⟨false, [(.ref 1)]⟩))]

def JE_laws_toPairEventS_l0 : X_laws_toPairEventS_l0 → List (Nat × Entry)
  | (_, y1, y2) => [(0, (.row false 45 (CTy.pair (CTy.int IntKind.i64) (CTy.pair (CTy.int IntKind.i64) (CTy.pair CTy.bool CTy.bool))) y1)), (1, (.row true 48 (CTy.pair (CTy.int IntKind.i64) (CTy.pair (CTy.int IntKind.i64) (CTy.pair CTy.bool CTy.bool))) y2))]

def XL_laws_toPairEventS_l0 : Nat → X_laws_toPairEventS_l0 → List (Nat × SV)
  | _, (_, _, _) => []

def XE_laws_toPairEventS_l0 : Nat → X_laws_toPairEventS_l0 → List (Nat × Entry)
  | _, (_, y1, y2) => [(0, (.row false 45 (CTy.pair (CTy.int IntKind.i64) (CTy.pair (CTy.int IntKind.i64) (CTy.pair CTy.bool CTy.bool))) y1)), (1, (.row true 48 (CTy.pair (CTy.int IntKind.i64) (CTy.pair (CTy.int IntKind.i64) (CTy.pair CTy.bool CTy.bool))) y2))]

def lt_laws_toPairEventS_l0 : X_laws_toPairEventS_l0 → LT X_laws_toPairEventS_l0
  | (y0, y1, y2) => .ite (laws_toPairEventS_l0_0 y0 y1) (.need [(laws_toPairEventS_l0_1 y0), (laws_toPairEventS_l0_0 y0 y1), (laws_toPairEventS_l0_2 y0 y1), (laws_toPairEventS_l0_1 y0), (laws_toPairEventS_l0_3 y0 y2), (laws_toPairEventS_l0_4 y0 y2)] (.nrm ((laws_toPairEventS_l0_5 y0), y1, (laws_toPairEventS_l0_6 y0 y1 y2)) [(0, 0), (1, 1)])) (.ext 0 [(0, 0), (1, 1)])

def rd_laws_toPairEventS_l0 (s : St) : Option X_laws_toPairEventS_l0 :=
  (match s.look 4 with
  | some ⟨none, (.one ⟨false, [(.val (.int IntKind.i64 y0))]⟩)⟩ =>
  (match s.look 0 with
  | some ⟨none, (.one ⟨false, [(.ref 0)]⟩)⟩ =>
  (match s.look 3 with
  | some ⟨none, (.one ⟨false, [(.ref 320)]⟩)⟩ =>
  (match s.ent 0 with
  | some (.row false 45 (CTy.pair (CTy.int IntKind.i64) (CTy.pair (CTy.int IntKind.i64) (CTy.pair CTy.bool CTy.bool))) y1) =>
  (match s.ent 320 with
  | some (.row true 48 (CTy.pair (CTy.int IntKind.i64) (CTy.pair (CTy.int IntKind.i64) (CTy.pair CTy.bool CTy.bool))) y2) =>
  some (y0, y1, y2)
  | _ => none)
  | _ => none)
  | _ => none)
  | _ => none)
  | _ => none)

def lp_laws_toPairEventS_l0 : Lp X_laws_toPairEventS_l0 where
  h := ⟨[8, 9, 10, 11, 14, 15, 16, 17, 18, 19, 20, 21, 12, 13, 4], [0, 1], [], []⟩
  JL := JL_laws_toPairEventS_l0
  JE := JE_laws_toPairEventS_l0
  XL := XL_laws_toPairEventS_l0
  XE := XE_laws_toPairEventS_l0
  q := fun j => match j with | _ => .exit 0
  tags := [0]
  lt := lt_laws_toPairEventS_l0
  fuel := fun (y0, y1, y2) => y0.natAbs + y1.length + y2.length
  fix := fun (_, y1, _) (y0, _, y2) => (y0, y1, y2)
  σ := [(0, 0), (1, 320)]
  rd := rd_laws_toPairEventS_l0

theorem lpok_laws_toPairEventS_l0 : LoopOk Try.prog (fun k => Nat.blt k Try.f32.ntmps) lp_laws_toPairEventS_l0.F (loopAt Try.f32 0) := by
  refine Lp.ok (tbl := [p_laws_toPairEvent]) (lf := []) hmix lp_laws_toPairEventS_l0 (by kernel_rfl) (LOk.nil _) (fun _ => rfl) (fun _ _ => rfl) ?_ ?_ ?_ ?_ (fun _ => rfl) ?_
  · intro x; obtain ⟨y0, y1, y2⟩ := x; kernel_rfl
  · intro x; obtain ⟨y0, y1, y2⟩ := x; kernel_rfl
  · intro s x h
    have h : rd_laws_toPairEventS_l0 s = some x := h
    unfold rd_laws_toPairEventS_l0 at h
    repeat' split at h
    all_goals cases h
    exact ⟨absS_cons (by assumption) rfl (absS_cons (by assumption) rfl (absS_cons (by assumption) rfl (rfl))), absE_cons rfl (by assumption) rfl (absE_cons rfl (by assumption) rfl (rfl))⟩
  · intro x; obtain ⟨y0, y1, y2⟩ := x; kernel_rfl
  · intro x z; obtain ⟨y0, y1, y2⟩ := x; exact (And.intro rfl trivial)

def laws_toPairEventS_0 (x0 : List (Int × Int × Bool × Bool)) : List (Int × (Int × (Bool × Bool))) :=
  Prod.snd
  (Prod.snd
    (Prod.snd
      (Lp.res lp_laws_toPairEventS_l0 ((0 : Int), x0, List.replicate (Int.toNat (↑(List.length x0) : Int)) ((0 : Int), (0 : Int), false, false)))))

def laws_toPairEventS_1 (x0 : List (Int × Int × Bool × Bool)) : Bool :=
  allT
  [decide ((0 : Int) ≤ (↑(List.length x0) : Int)), decide ((↑(List.length x0) : Int) ≤ (↑(List.length x0) : Int)),
    decide ((↑(24 : Nat) : Int) * (↑(List.length x0) : Int) ≤ (281474976710656 : Int)),
    decide ((↑(List.length x0) : Int) ≤ (9223372036854775807 : Int)),
    Lp.fin lp_laws_toPairEventS_l0 ((0 : Int), x0, List.replicate (Int.toNat (↑(List.length x0) : Int)) ((0 : Int), (0 : Int), false, false))]

def F_laws_toPairEventS : List SV → List Entry → Option Out
  | [.one ⟨false, [.ref 0]⟩], [.row false 45 (.pair (.int .i64) (.pair (.int .i64) (.pair (.bool) (.bool)))) x0] => some ⟨(.one ⟨false, [(.ref 1)]⟩), [(.row false 45 (CTy.pair (CTy.int IntKind.i64) (CTy.pair (CTy.int IntKind.i64) (CTy.pair CTy.bool CTy.bool))) x0)], [(.row true 48 (CTy.pair (CTy.int IntKind.i64) (CTy.pair (CTy.int IntKind.i64) (CTy.pair CTy.bool CTy.bool))) (laws_toPairEventS_0 x0))], [(laws_toPairEventS_1 x0)]⟩
  | _, _ => none

def p_laws_toPairEventS : PF Try.prog := PF.ofG Try.prog [p_laws_toPairEvent] [lp_laws_toPairEventS_l0.F] hmix 32 Try.f32 Try.func32 (LOk.fnT (l := [loopAt Try.f32 0]) (by kernel_rfl) (.cons lpok_laws_toPairEventS_l0 (.nil _))) F_laws_toPairEventS (by
  intro vs es r h; unfold F_laws_toPairEventS at h; split at h
  · cases h; kernel_rfl
  · cases h)

def impl_countLoss_0 (x0 : Int) (x1 : Bool) : Bool :=
  decide ((bif !x1 then (0 : Int) else IntKind.wrap IntKind.i64 (x0 + (1 : Int))) ≤ (2 : Int))

def impl_countLoss_1 (x0 : Int) (x1 : Bool) : Int :=
  bif !x1 then (0 : Int) else IntKind.wrap IntKind.i64 (x0 + (1 : Int))

def F_impl_countLoss : List SV → List Entry → Option Out
  | [.one ⟨false, [.ptr 0 0]⟩, .one ⟨false, [.val (.bool x1)]⟩], [.box 3 [.val (.int .i64 x0)]] => some ⟨(.one ⟨false, [(.val (.bool (impl_countLoss_0 x0 x1)))]⟩), [(.box 3 [(.val (.int IntKind.i64 (impl_countLoss_1 x0 x1)))])], [], []⟩
  | _, _ => none

def p_impl_countLoss : PF Try.prog := PF.ofG Try.prog [] [] hmix 69 Try.f69 Try.func69 (fun c _ => LOk.nil c) F_impl_countLoss (by
  intro vs es r h; unfold F_impl_countLoss at h; split at h
  · cases h; kernel_rfl
  · cases h)

abbrev X_impl_AreAdmitted_l0 := Int × Int × List (Int × (Int × (Bool × Bool))) × Int × Int × List ((Int × Int) × (Int × Int))

def impl_AreAdmitted_l0_0 (y0 : Int) (y1 : Int) : Bool :=
  decide (y0 < y1)

def impl_AreAdmitted_l0_1 (y0 : Int) : Bool :=
  decide ((0 : Int) ≤ y0)

def impl_AreAdmitted_l0_2 (y0 : Int) (y2 : List (Int × (Int × (Bool × Bool)))) : Bool :=
  decide (y0 < (↑(List.length y2) : Int))

def impl_AreAdmitted_l0_3 (y0 : Int) (y2 : List (Int × (Int × (Bool × Bool)))) : Bool :=
  decide (Int.toNat y0 < List.length y2)

def impl_AreAdmitted_l0_4 (y0 : Int) (y2 : List (Int × (Int × (Bool × Bool)))) : Bool :=
  Prod.fst (Option.getD y2[Int.toNat y0]? ((0 : Int), (0 : Int), false, false)) == (1 : Int) ||
  (Prod.fst (Option.getD y2[Int.toNat y0]? ((0 : Int), (0 : Int), false, false)) == (2 : Int) || decide ((0 : Int) ≤ y0))

def impl_AreAdmitted_l0_5 (y0 : Int) (y2 : List (Int × (Int × (Bool × Bool)))) (y5 : List ((Int × Int) × (Int × Int))) : Bool :=
  Prod.fst (Option.getD y2[Int.toNat y0]? ((0 : Int), (0 : Int), false, false)) == (1 : Int) ||
  (Prod.fst (Option.getD y2[Int.toNat y0]? ((0 : Int), (0 : Int), false, false)) == (2 : Int) || decide (y0 < (↑(List.length y5) : Int)))

def impl_AreAdmitted_l0_6 (y0 : Int) (y2 : List (Int × (Int × (Bool × Bool)))) (y5 : List ((Int × Int) × (Int × Int))) : Bool :=
  Prod.fst (Option.getD y2[Int.toNat y0]? ((0 : Int), (0 : Int), false, false)) == (1 : Int) ||
  (Prod.fst (Option.getD y2[Int.toNat y0]? ((0 : Int), (0 : Int), false, false)) == (2 : Int) || decide (Int.toNat y0 < List.length y5))

def impl_AreAdmitted_l0_7 (y0 : Int) (y2 : List (Int × (Int × (Bool × Bool)))) (y5 : List ((Int × Int) × (Int × Int))) : Bool :=
  Prod.fst (Option.getD y2[Int.toNat y0]? ((0 : Int), (0 : Int), false, false)) == (1 : Int) ||
  (Prod.fst (Option.getD y2[Int.toNat y0]? ((0 : Int), (0 : Int), false, false)) == (2 : Int) ||
    (!(!!loop_example_g00916_impl_Controller_isUp_0
                (Prod.fst (Prod.fst (Option.getD y5[Int.toNat y0]? (((0 : Int), (0 : Int)), (0 : Int), (0 : Int))))) &&
          true) ||
      decide ((0 : Int) ≤ y0)))

def impl_AreAdmitted_l0_8 (y0 : Int) (y2 : List (Int × (Int × (Bool × Bool)))) (y5 : List ((Int × Int) × (Int × Int))) : Bool :=
  Prod.fst (Option.getD y2[Int.toNat y0]? ((0 : Int), (0 : Int), false, false)) == (1 : Int) ||
  (Prod.fst (Option.getD y2[Int.toNat y0]? ((0 : Int), (0 : Int), false, false)) == (2 : Int) ||
    (!(!!loop_example_g00916_impl_Controller_isUp_0
                (Prod.fst (Prod.fst (Option.getD y5[Int.toNat y0]? (((0 : Int), (0 : Int)), (0 : Int), (0 : Int))))) &&
          true) ||
      decide (y0 < (↑(List.length y5) : Int))))

def impl_AreAdmitted_l0_9 (y0 : Int) (y2 : List (Int × (Int × (Bool × Bool)))) (y5 : List ((Int × Int) × (Int × Int))) : Bool :=
  Prod.fst (Option.getD y2[Int.toNat y0]? ((0 : Int), (0 : Int), false, false)) == (1 : Int) ||
  (Prod.fst (Option.getD y2[Int.toNat y0]? ((0 : Int), (0 : Int), false, false)) == (2 : Int) ||
    (!(!!loop_example_g00916_impl_Controller_isUp_0
                (Prod.fst (Prod.fst (Option.getD y5[Int.toNat y0]? (((0 : Int), (0 : Int)), (0 : Int), (0 : Int))))) &&
          true) ||
      decide (Int.toNat y0 < List.length y5)))

def impl_AreAdmitted_l0_10 (y0 : Int) (y2 : List (Int × (Int × (Bool × Bool)))) : Bool :=
  Prod.fst (Option.getD y2[Int.toNat y0]? ((0 : Int), (0 : Int), false, false)) == (1 : Int)

def impl_AreAdmitted_l0_11 (y0 : Int) : Int :=
  IntKind.wrap IntKind.i64 (y0 + (1 : Int))

def impl_AreAdmitted_l0_12 (y0 : Int) (y2 : List (Int × (Int × (Bool × Bool)))) : Bool :=
  Prod.fst (Option.getD y2[Int.toNat y0]? ((0 : Int), (0 : Int), false, false)) == (2 : Int)

def impl_AreAdmitted_l0_13 (y0 : Int) (y5 : List ((Int × Int) × (Int × Int))) : Bool :=
  bif
    !loop_example_g00916_impl_Controller_isUp_0
        (Prod.fst (Prod.fst (Option.getD y5[Int.toNat y0]? (((0 : Int), (0 : Int)), (0 : Int), (0 : Int))))) then
  true
  else !loop_example_g00916_impl_Controller_isUp_0 (Prod.fst (Prod.snd (Option.getD y5[Int.toNat y0]? (((0 : Int), (0 : Int)), (0 : Int), (0 : Int)))))

def impl_AreAdmitted_l0_14 (y0 : Int) (y2 : List (Int × (Int × (Bool × Bool)))) : Bool :=
  bif Prod.fst (Prod.snd (Prod.snd (Option.getD y2[Int.toNat y0]? ((0 : Int), (0 : Int), false, false)))) then true
  else Prod.snd (Prod.snd (Prod.snd (Option.getD y2[Int.toNat y0]? ((0 : Int), (0 : Int), false, false))))

def impl_AreAdmitted_l0_15 (y0 : Int) (y2 : List (Int × (Int × (Bool × Bool)))) (y3 : Int) (y4 : Int) : Bool :=
  bif !impl_countLoss_0 y3 (Prod.fst (Prod.snd (Prod.snd (Option.getD y2[Int.toNat y0]? ((0 : Int), (0 : Int), false, false))))) then true
  else !impl_countLoss_0 y4 (Prod.snd (Prod.snd (Prod.snd (Option.getD y2[Int.toNat y0]? ((0 : Int), (0 : Int), false, false)))))

def impl_AreAdmitted_l0_16 (y0 : Int) (y2 : List (Int × (Int × (Bool × Bool)))) (y3 : Int) : Int :=
  impl_countLoss_1 y3 (Prod.fst (Prod.snd (Prod.snd (Option.getD y2[Int.toNat y0]? ((0 : Int), (0 : Int), false, false)))))

def impl_AreAdmitted_l0_17 (y0 : Int) (y2 : List (Int × (Int × (Bool × Bool)))) (y3 : Int) (y4 : Int) : Int :=
  bif !!impl_countLoss_0 y3 (Prod.fst (Prod.snd (Prod.snd (Option.getD y2[Int.toNat y0]? ((0 : Int), (0 : Int), false, false))))) && true then
  impl_countLoss_1 y4 (Prod.snd (Prod.snd (Prod.snd (Option.getD y2[Int.toNat y0]? ((0 : Int), (0 : Int), false, false)))))
  else y4

def JL_impl_AreAdmitted_l0 : X_impl_AreAdmitted_l0 → List (Nat × SV)
  | (y0, y1, _, _, _, _) => [(19, (.one ⟨false, [(.val (.int IntKind.i64 y0))]⟩)), (18, (.one ⟨false, [(.val (.int IntKind.i64 y1))]⟩)), (17, (.one ⟨false, [(.ref 0)]⟩)), (5, (.one ⟨false, [(.ptr 1 0)]⟩)), (6, (.one ⟨false, [(.ptr 2 0)]⟩)), (3, (.one ⟨false, [(.ref 3)]⟩))]

def JE_impl_AreAdmitted_l0 : X_impl_AreAdmitted_l0 → List (Nat × Entry)
  | (_, _, y2, y3, y4, y5) => [(0, (.row false 48 (CTy.pair (CTy.int IntKind.i64) (CTy.pair (CTy.int IntKind.i64) (CTy.pair CTy.bool CTy.bool))) y2)), (1, (.box 3 [(.val (.int IntKind.i64 y3))])), (2, (.box 3 [(.val (.int IntKind.i64 y4))])), (3, (.row true 30 (CTy.pair (CTy.pair (CTy.int IntKind.i64) (CTy.int IntKind.i64)) (CTy.pair (CTy.int IntKind.i64) (CTy.int IntKind.i64))) y5))]

def XL_impl_AreAdmitted_l0 : Nat → X_impl_AreAdmitted_l0 → List (Nat × SV)
  | 0, (_, _, _, _, _, _) => [(2, (.one ⟨false, [(.val (.bool false))]⟩))]
  | 1, (_, _, _, _, _, _) => [(2, (.one ⟨false, [(.val (.bool false))]⟩))]
  | _, (_, _, _, _, _, _) => []

def XE_impl_AreAdmitted_l0 : Nat → X_impl_AreAdmitted_l0 → List (Nat × Entry)
  | 0, (_, _, y2, y3, y4, y5) => [(0, (.row false 48 (CTy.pair (CTy.int IntKind.i64) (CTy.pair (CTy.int IntKind.i64) (CTy.pair CTy.bool CTy.bool))) y2)), (1, (.box 3 [(.val (.int IntKind.i64 y3))])), (2, (.box 3 [(.val (.int IntKind.i64 y4))])), (3, (.row true 30 (CTy.pair (CTy.pair (CTy.int IntKind.i64) (CTy.int IntKind.i64)) (CTy.pair (CTy.int IntKind.i64) (CTy.int IntKind.i64))) y5))]
  | 1, (y0, _, y2, y3, y4, y5) => [(0, (.row false 48 (CTy.pair (CTy.int IntKind.i64) (CTy.pair (CTy.int IntKind.i64) (CTy.pair CTy.bool CTy.bool))) y2)), (1, (.box 3 [(.val (.int IntKind.i64 (impl_AreAdmitted_l0_16 y0 y2 y3)))])), (2, (.box 3 [(.val (.int IntKind.i64 (impl_AreAdmitted_l0_17 y0 y2 y3 y4)))])), (3, (.row true 30 (CTy.pair (CTy.pair (CTy.int IntKind.i64) (CTy.int IntKind.i64)) (CTy.pair (CTy.int IntKind.i64) (CTy.int IntKind.i64))) y5))]
  | _, (_, _, y2, y3, y4, y5) => [(0, (.row false 48 (CTy.pair (CTy.int IntKind.i64) (CTy.pair (CTy.int IntKind.i64) (CTy.pair CTy.bool CTy.bool))) y2)), (1, (.box 3 [(.val (.int IntKind.i64 y3))])), (2, (.box 3 [(.val (.int IntKind.i64 y4))])), (3, (.row true 30 (CTy.pair (CTy.pair (CTy.int IntKind.i64) (CTy.int IntKind.i64)) (CTy.pair (CTy.int IntKind.i64) (CTy.int IntKind.i64))) y5))]

def lt_impl_AreAdmitted_l0 : X_impl_AreAdmitted_l0 → LT X_impl_AreAdmitted_l0
  | (y0, y1, y2, y3, y4, y5) => .ite (impl_AreAdmitted_l0_0 y0 y1) (.need [(impl_AreAdmitted_l0_1 y0), (impl_AreAdmitted_l0_2 y0 y2), (impl_AreAdmitted_l0_3 y0 y2)] (.need [(impl_AreAdmitted_l0_4 y0 y2), (impl_AreAdmitted_l0_5 y0 y2 y5), (impl_AreAdmitted_l0_6 y0 y2 y5), (impl_AreAdmitted_l0_7 y0 y2 y5), (impl_AreAdmitted_l0_8 y0 y2 y5), (impl_AreAdmitted_l0_9 y0 y2 y5)] (.ite (impl_AreAdmitted_l0_10 y0 y2) (.nrm ((impl_AreAdmitted_l0_11 y0), y1, y2, (0 : Int), (0 : Int), y5) [(0, 0), (1, 1), (2, 2), (3, 3)]) (.ite (impl_AreAdmitted_l0_12 y0 y2) (.nrm ((impl_AreAdmitted_l0_11 y0), y1, y2, y3, y4, y5) [(0, 0), (1, 1), (2, 2), (3, 3)]) (.ite (impl_AreAdmitted_l0_13 y0 y5) (.ite (impl_AreAdmitted_l0_14 y0 y2) (.ext 0 [(0, 0), (1, 1), (2, 2), (3, 3)]) (.nrm ((impl_AreAdmitted_l0_11 y0), y1, y2, y3, y4, y5) [(0, 0), (1, 1), (2, 2), (3, 3)])) (.ite (impl_AreAdmitted_l0_15 y0 y2 y3 y4) (.ext 1 [(0, 0), (1, 1), (2, 2), (3, 3)]) (.nrm ((impl_AreAdmitted_l0_11 y0), y1, y2, (impl_AreAdmitted_l0_16 y0 y2 y3), (impl_AreAdmitted_l0_17 y0 y2 y3 y4), y5) [(0, 0), (1, 1), (2, 2), (3, 3)]))))))) (.ext 2 [(0, 0), (1, 1), (2, 2), (3, 3)])

def rd_impl_AreAdmitted_l0 (s : St) : Option X_impl_AreAdmitted_l0 :=
  (match s.look 19 with
  | some ⟨none, (.one ⟨false, [(.val (.int IntKind.i64 y0))]⟩)⟩ =>
  (match s.look 18 with
  | some ⟨none, (.one ⟨false, [(.val (.int IntKind.i64 y1))]⟩)⟩ =>
  (match s.look 17 with
  | some ⟨none, (.one ⟨false, [(.ref 0)]⟩)⟩ =>
  (match s.look 5 with
  | some ⟨none, (.one ⟨false, [(.ptr 832 0)]⟩)⟩ =>
  (match s.look 6 with
  | some ⟨none, (.one ⟨false, [(.ptr 896 0)]⟩)⟩ =>
  (match s.look 3 with
  | some ⟨none, (.one ⟨false, [(.ref 320)]⟩)⟩ =>
  (match s.ent 0 with
  | some (.row false 48 (CTy.pair (CTy.int IntKind.i64) (CTy.pair (CTy.int IntKind.i64) (CTy.pair CTy.bool CTy.bool))) y2) =>
  (match s.ent 832 with
  | some (.box 3 [(.val (.int IntKind.i64 y3))]) =>
  (match s.ent 896 with
  | some (.box 3 [(.val (.int IntKind.i64 y4))]) =>
  (match s.ent 320 with
  | some (.row true 30 (CTy.pair (CTy.pair (CTy.int IntKind.i64) (CTy.int IntKind.i64)) (CTy.pair (CTy.int IntKind.i64) (CTy.int IntKind.i64))) y5) =>
  some (y0, y1, y2, y3, y4, y5)
  | _ => none)
  | _ => none)
  | _ => none)
  | _ => none)
  | _ => none)
  | _ => none)
  | _ => none)
  | _ => none)
  | _ => none)
  | _ => none)

def lp_impl_AreAdmitted_l0 : Lp X_impl_AreAdmitted_l0 where
  h := ⟨[20, 21, 22, 23, 8, 7, 35, 36, 37, 34, 39, 40, 41, 38, 43, 44, 45, 46, 47, 48, 49, 50, 51, 52, 53, 54, 55, 56, 57, 58, 42, 59, 60, 61, 62, 63, 64, 2, 24, 25, 26, 27, 28, 29, 30, 31, 32, 33, 65, 19], [0, 1, 2, 3], [], []⟩
  JL := JL_impl_AreAdmitted_l0
  JE := JE_impl_AreAdmitted_l0
  XL := XL_impl_AreAdmitted_l0
  XE := XE_impl_AreAdmitted_l0
  q := fun j => match j with | 0 => .ret | 1 => .ret | _ => .exit 0
  tags := [0, 1, 2]
  lt := lt_impl_AreAdmitted_l0
  fuel := fun (y0, y1, y2, y3, y4, y5) => y0.natAbs + y1.natAbs + y2.length + y3.natAbs + y4.natAbs + y5.length
  fix := fun (_, y1, y2, _, _, y5) (y0, _, _, y3, y4, _) => (y0, y1, y2, y3, y4, y5)
  σ := [(0, 0), (1, 832), (2, 896), (3, 320)]
  rd := rd_impl_AreAdmitted_l0

theorem lpok_impl_AreAdmitted_l0 : LoopOk Try.prog (fun k => Nat.blt k Try.f33.ntmps) lp_impl_AreAdmitted_l0.F (loopAt Try.f33 0) := by
  refine Lp.ok (tbl := [p_loop_example_g00916_impl_Controller_isUp, p_impl_runPair, PF.lend p_impl_runPair, PF.fz p_impl_runPair, p_impl_countLoss]) (lf := []) hmix lp_impl_AreAdmitted_l0 (by kernel_rfl) (LOk.nil _) (fun _ => rfl) (fun j _ => by unfold lp_impl_AreAdmitted_l0; match j with | 0 => rfl | 1 => rfl | _ + 2 => rfl) ?_ ?_ ?_ ?_ (fun _ => rfl) ?_
  · intro x; obtain ⟨y0, y1, y2, y3, y4, y5⟩ := x; kernel_rfl
  · intro x; obtain ⟨y0, y1, y2, y3, y4, y5⟩ := x; kernel_rfl
  · intro s x h
    have h : rd_impl_AreAdmitted_l0 s = some x := h
    unfold rd_impl_AreAdmitted_l0 at h
    repeat' split at h
    all_goals cases h
    exact ⟨absS_cons (by assumption) rfl (absS_cons (by assumption) rfl (absS_cons (by assumption) rfl (absS_cons (by assumption) rfl (absS_cons (by assumption) rfl (absS_cons (by assumption) rfl (rfl)))))), absE_cons rfl (by assumption) rfl (absE_cons rfl (by assumption) rfl (absE_cons rfl (by assumption) rfl (absE_cons rfl (by assumption) rfl (rfl))))⟩
  · intro x; obtain ⟨y0, y1, y2, y3, y4, y5⟩ := x; kernel_rfl
  · intro x z; obtain ⟨y0, y1, y2, y3, y4, y5⟩ := x; exact (And.intro (And.intro rfl (And.intro rfl (And.intro (And.intro trivial rfl) (And.intro trivial rfl)))) trivial)

def impl_AreAdmitted_0 (x0 : List (Int × Int × Bool × Bool)) : Bool :=
  bif impl_runPair_0 (0 : Int) (0 : Int) (0 : Int) (0 : Int) x0 != (0 : Int) then false
  else
  bif
      Nat.beq
        (Prod.fst
          (Lp.res lp_impl_AreAdmitted_l0
            ((0 : Int), (↑(List.length x0) : Int), x0, (0 : Int), (0 : Int), impl_runPair_1 (0 : Int) (0 : Int) (0 : Int) (0 : Int) x0)))
        (0 : Nat) then
    false
  else
    bif
        Nat.beq
          (Prod.fst
            (Lp.res lp_impl_AreAdmitted_l0
              ((0 : Int), (↑(List.length x0) : Int), x0, (0 : Int), (0 : Int), impl_runPair_1 (0 : Int) (0 : Int) (0 : Int) (0 : Int) x0)))
          (1 : Nat) then
      false
    else true

def impl_AreAdmitted_1 (x0 : List (Int × Int × Bool × Bool)) : Bool :=
  allT
  [impl_runPair_2 (0 : Int) (0 : Int) (0 : Int) (0 : Int) x0,
    impl_runPair_0 (0 : Int) (0 : Int) (0 : Int) (0 : Int) x0 != (0 : Int) ||
      Lp.fin lp_impl_AreAdmitted_l0
        ((0 : Int), (↑(List.length x0) : Int), x0, (0 : Int), (0 : Int), impl_runPair_1 (0 : Int) (0 : Int) (0 : Int) (0 : Int) x0)]

def F_impl_AreAdmitted : List SV → List Entry → Option Out
  | [.one ⟨false, [.ref 0]⟩], [.row false 48 (.pair (.int .i64) (.pair (.int .i64) (.pair (.bool) (.bool)))) x0] => some ⟨(.one ⟨false, [(.val (.bool (impl_AreAdmitted_0 x0)))]⟩), [(.row false 48 (CTy.pair (CTy.int IntKind.i64) (CTy.pair (CTy.int IntKind.i64) (CTy.pair CTy.bool CTy.bool))) x0)], [], [(impl_AreAdmitted_1 x0)]⟩
  | _, _ => none

def p_impl_AreAdmitted : PF Try.prog := PF.ofG Try.prog [p_loop_example_g00916_impl_Controller_isUp, p_impl_runPair, PF.lend p_impl_runPair, PF.fz p_impl_runPair, p_impl_countLoss] [lp_impl_AreAdmitted_l0.F] hmix 33 Try.f33 Try.func33 (LOk.fnT (l := [loopAt Try.f33 0]) (by kernel_rfl) (.cons lpok_impl_AreAdmitted_l0 (.nil _))) F_impl_AreAdmitted (by
  intro vs es r h; unfold F_impl_AreAdmitted at h; split at h
  · cases h; kernel_rfl
  · cases h)

def laws_eqPairEvent_0 (x0 : Int) (x1 : Int) (x2 : Bool) (x3 : Bool) (x4 : Int) (x5 : Int) (x6 : Bool) (x7 : Bool) : Bool :=
  bif x0 != x4 then false else bif x1 != x5 then false else bif !x2 == x6 then false else bif !x3 == x7 then false else true

def F_laws_eqPairEvent : List SV → List Entry → Option Out
  | [.one ⟨true, [.val (.int .i64 x0), .val (.int .i64 x1), .val (.bool x2), .val (.bool x3)]⟩, .one ⟨true, [.val (.int .i64 x4), .val (.int .i64 x5), .val (.bool x6), .val (.bool x7)]⟩], [] => some ⟨(.one ⟨false, [(.val (.bool (laws_eqPairEvent_0 x0 x1 x2 x3 x4 x5 x6 x7)))]⟩), [], [], []⟩
  | _, _ => none

def p_laws_eqPairEvent : PF Try.prog := PF.ofG Try.prog [] [] hmix 70 Try.f70 Try.func70 (fun c _ => LOk.nil c) F_laws_eqPairEvent (by
  intro vs es r h; unfold F_laws_eqPairEvent at h; split at h
  · cases h; kernel_rfl
  · cases h)

abbrev X_laws_eqPairEventS_l0 := Int × List (Int × (Int × (Bool × Bool))) × List (Int × (Int × (Bool × Bool)))

def laws_eqPairEventS_l0_0 (y0 : Int) (y1 : List (Int × (Int × (Bool × Bool)))) : Bool :=
  decide (y0 < (↑(List.length y1) : Int))

def laws_eqPairEventS_l0_1 (y0 : Int) : Bool :=
  decide ((0 : Int) ≤ y0)

def laws_eqPairEventS_l0_2 (y0 : Int) (y1 : List (Int × (Int × (Bool × Bool)))) : Bool :=
  decide (Int.toNat y0 < List.length y1)

def laws_eqPairEventS_l0_3 (y0 : Int) (y2 : List (Int × (Int × (Bool × Bool)))) : Bool :=
  decide (y0 < (↑(List.length y2) : Int))

def laws_eqPairEventS_l0_4 (y0 : Int) (y2 : List (Int × (Int × (Bool × Bool)))) : Bool :=
  decide (Int.toNat y0 < List.length y2)

def laws_eqPairEventS_l0_5 (y0 : Int) (y1 : List (Int × (Int × (Bool × Bool)))) (y2 : List (Int × (Int × (Bool × Bool)))) : Bool :=
  !laws_eqPairEvent_0 (Prod.fst (Option.getD y1[Int.toNat y0]? ((0 : Int), (0 : Int), false, false)))
    (Prod.fst (Prod.snd (Option.getD y1[Int.toNat y0]? ((0 : Int), (0 : Int), false, false))))
    (Prod.fst (Prod.snd (Prod.snd (Option.getD y1[Int.toNat y0]? ((0 : Int), (0 : Int), false, false)))))
    (Prod.snd (Prod.snd (Prod.snd (Option.getD y1[Int.toNat y0]? ((0 : Int), (0 : Int), false, false)))))
    (Prod.fst (Option.getD y2[Int.toNat y0]? ((0 : Int), (0 : Int), false, false)))
    (Prod.fst (Prod.snd (Option.getD y2[Int.toNat y0]? ((0 : Int), (0 : Int), false, false))))
    (Prod.fst (Prod.snd (Prod.snd (Option.getD y2[Int.toNat y0]? ((0 : Int), (0 : Int), false, false)))))
    (Prod.snd (Prod.snd (Prod.snd (Option.getD y2[Int.toNat y0]? ((0 : Int), (0 : Int), false, false)))))

def laws_eqPairEventS_l0_6 (y0 : Int) : Int :=
  IntKind.wrap IntKind.i64 (y0 + (1 : Int))

def JL_laws_eqPairEventS_l0 : X_laws_eqPairEventS_l0 → List (Nat × SV)
  | (y0, _, _) => [(5, (.one ⟨false, [(.val (.int IntKind.i64 y0))]⟩)), (0, (.one ⟨false, [(.ref 0)]⟩)), (1, (.one ⟨false, [(.ref 1)]⟩))]

def JE_laws_eqPairEventS_l0 : X_laws_eqPairEventS_l0 → List (Nat × Entry)
  | (_, y1, y2) => [(0, (.row false 48 (CTy.pair (CTy.int IntKind.i64) (CTy.pair (CTy.int IntKind.i64) (CTy.pair CTy.bool CTy.bool))) y1)), (1, (.row false 48 (CTy.pair (CTy.int IntKind.i64) (CTy.pair (CTy.int IntKind.i64) (CTy.pair CTy.bool CTy.bool))) y2))]

def XL_laws_eqPairEventS_l0 : Nat → X_laws_eqPairEventS_l0 → List (Nat × SV)
  | 0, (_, _, _) => [(4, (.one ⟨false, [(.val (.bool false))]⟩))]
  | _, (_, _, _) => []

def XE_laws_eqPairEventS_l0 : Nat → X_laws_eqPairEventS_l0 → List (Nat × Entry)
  | 0, (_, y1, y2) => [(0, (.row false 48 (CTy.pair (CTy.int IntKind.i64) (CTy.pair (CTy.int IntKind.i64) (CTy.pair CTy.bool CTy.bool))) y1)), (1, (.row false 48 (CTy.pair (CTy.int IntKind.i64) (CTy.pair (CTy.int IntKind.i64) (CTy.pair CTy.bool CTy.bool))) y2))]
  | _, (_, y1, y2) => [(0, (.row false 48 (CTy.pair (CTy.int IntKind.i64) (CTy.pair (CTy.int IntKind.i64) (CTy.pair CTy.bool CTy.bool))) y1)), (1, (.row false 48 (CTy.pair (CTy.int IntKind.i64) (CTy.pair (CTy.int IntKind.i64) (CTy.pair CTy.bool CTy.bool))) y2))]

def lt_laws_eqPairEventS_l0 : X_laws_eqPairEventS_l0 → LT X_laws_eqPairEventS_l0
  | (y0, y1, y2) => .ite (laws_eqPairEventS_l0_0 y0 y1) (.need [(laws_eqPairEventS_l0_1 y0), (laws_eqPairEventS_l0_0 y0 y1), (laws_eqPairEventS_l0_2 y0 y1), (laws_eqPairEventS_l0_1 y0), (laws_eqPairEventS_l0_3 y0 y2), (laws_eqPairEventS_l0_4 y0 y2)] (.ite (laws_eqPairEventS_l0_5 y0 y1 y2) (.ext 0 [(0, 0), (1, 1)]) (.nrm ((laws_eqPairEventS_l0_6 y0), y1, y2) [(0, 0), (1, 1)]))) (.ext 1 [(0, 0), (1, 1)])

def rd_laws_eqPairEventS_l0 (s : St) : Option X_laws_eqPairEventS_l0 :=
  (match s.look 5 with
  | some ⟨none, (.one ⟨false, [(.val (.int IntKind.i64 y0))]⟩)⟩ =>
  (match s.look 0 with
  | some ⟨none, (.one ⟨false, [(.ref 0)]⟩)⟩ =>
  (match s.look 1 with
  | some ⟨none, (.one ⟨false, [(.ref 1)]⟩)⟩ =>
  (match s.ent 0 with
  | some (.row false 48 (CTy.pair (CTy.int IntKind.i64) (CTy.pair (CTy.int IntKind.i64) (CTy.pair CTy.bool CTy.bool))) y1) =>
  (match s.ent 1 with
  | some (.row false 48 (CTy.pair (CTy.int IntKind.i64) (CTy.pair (CTy.int IntKind.i64) (CTy.pair CTy.bool CTy.bool))) y2) =>
  some (y0, y1, y2)
  | _ => none)
  | _ => none)
  | _ => none)
  | _ => none)
  | _ => none)

def lp_laws_eqPairEventS_l0 : Lp X_laws_eqPairEventS_l0 where
  h := ⟨[11, 12, 13, 14, 17, 18, 19, 20, 21, 22, 23, 24, 25, 26, 4, 15, 16, 5], [0, 1], [], []⟩
  JL := JL_laws_eqPairEventS_l0
  JE := JE_laws_eqPairEventS_l0
  XL := XL_laws_eqPairEventS_l0
  XE := XE_laws_eqPairEventS_l0
  q := fun j => match j with | 0 => .ret | _ => .exit 0
  tags := [0, 1]
  lt := lt_laws_eqPairEventS_l0
  fuel := fun (y0, y1, y2) => y0.natAbs + y1.length + y2.length
  fix := fun (_, y1, y2) (y0, _, _) => (y0, y1, y2)
  σ := [(0, 0), (1, 1)]
  rd := rd_laws_eqPairEventS_l0

theorem lpok_laws_eqPairEventS_l0 : LoopOk Try.prog (fun k => Nat.blt k Try.f34.ntmps) lp_laws_eqPairEventS_l0.F (loopAt Try.f34 0) := by
  refine Lp.ok (tbl := [p_laws_eqPairEvent]) (lf := []) hmix lp_laws_eqPairEventS_l0 (by kernel_rfl) (LOk.nil _) (fun _ => rfl) (fun j _ => by unfold lp_laws_eqPairEventS_l0; match j with | 0 => rfl | _ + 1 => rfl) ?_ ?_ ?_ ?_ (fun _ => rfl) ?_
  · intro x; obtain ⟨y0, y1, y2⟩ := x; kernel_rfl
  · intro x; obtain ⟨y0, y1, y2⟩ := x; kernel_rfl
  · intro s x h
    have h : rd_laws_eqPairEventS_l0 s = some x := h
    unfold rd_laws_eqPairEventS_l0 at h
    repeat' split at h
    all_goals cases h
    exact ⟨absS_cons (by assumption) rfl (absS_cons (by assumption) rfl (absS_cons (by assumption) rfl (rfl))), absE_cons rfl (by assumption) rfl (absE_cons rfl (by assumption) rfl (rfl))⟩
  · intro x; obtain ⟨y0, y1, y2⟩ := x; kernel_rfl
  · intro x z; obtain ⟨y0, y1, y2⟩ := x; exact (And.intro (And.intro trivial rfl) trivial)

def laws_eqPairEventS_0 (x0 : List (Int × Int × Bool × Bool)) (x1 : List (Int × Int × Bool × Bool)) : Bool :=
  bif (↑(List.length x0) : Int) != (↑(List.length x1) : Int) then false
  else bif Nat.beq (Prod.fst (Lp.res lp_laws_eqPairEventS_l0 ((0 : Int), x0, x1))) (0 : Nat) then false else true

def laws_eqPairEventS_1 (x0 : List (Int × Int × Bool × Bool)) (x1 : List (Int × Int × Bool × Bool)) : Bool :=
  allT [(↑(List.length x0) : Int) != (↑(List.length x1) : Int) || Lp.fin lp_laws_eqPairEventS_l0 ((0 : Int), x0, x1)]

def F_laws_eqPairEventS : List SV → List Entry → Option Out
  | [.one ⟨false, [.ref 0]⟩, .one ⟨false, [.ref 1]⟩], [.row false 48 (.pair (.int .i64) (.pair (.int .i64) (.pair (.bool) (.bool)))) x0, .row false 48 (.pair (.int .i64) (.pair (.int .i64) (.pair (.bool) (.bool)))) x1] => some ⟨(.one ⟨false, [(.val (.bool (laws_eqPairEventS_0 x0 x1)))]⟩), [(.row false 48 (CTy.pair (CTy.int IntKind.i64) (CTy.pair (CTy.int IntKind.i64) (CTy.pair CTy.bool CTy.bool))) x0), (.row false 48 (CTy.pair (CTy.int IntKind.i64) (CTy.pair (CTy.int IntKind.i64) (CTy.pair CTy.bool CTy.bool))) x1)], [], [(laws_eqPairEventS_1 x0 x1)]⟩
  | _, _ => none

def p_laws_eqPairEventS : PF Try.prog := PF.ofG Try.prog [p_laws_eqPairEvent] [lp_laws_eqPairEventS_l0.F] hmix 34 Try.f34 Try.func34 (LOk.fnT (l := [loopAt Try.f34 0]) (by kernel_rfl) (.cons lpok_laws_eqPairEventS_l0 (.nil _))) F_laws_eqPairEventS (by
  intro vs es r h; unfold F_laws_eqPairEventS at h; split at h
  · cases h; kernel_rfl
  · cases h)

def laws_FnExactAreAdmitted_0 (x0 : List (Int × Int × Bool × Bool)) : Bool :=
  bif decide (laws_szPairEventS_0 x0 (1048576 : Int) < (0 : Int)) then true
  else
  bif !impl_AreAdmitted_0 (laws_toPairEventS_0 x0) == spec_AreAdmitted_0 (laws_toPairEventS_0 x0) then false
  else bif !laws_eqPairEventS_0 (laws_toPairEventS_0 x0) (laws_toPairEventS_0 x0) then false else true

def laws_FnExactAreAdmitted_1 (x0 : List (Int × Int × Bool × Bool)) : Bool :=
  allT
  [decide (laws_szPairEventS_0 x0 (1048576 : Int) < (0 : Int)) || laws_toPairEventS_1 x0,
    decide (laws_szPairEventS_0 x0 (1048576 : Int) < (0 : Int)) || spec_AreAdmitted_1 (laws_toPairEventS_0 x0),
    decide (laws_szPairEventS_0 x0 (1048576 : Int) < (0 : Int)) || laws_toPairEventS_1 x0,
    decide (laws_szPairEventS_0 x0 (1048576 : Int) < (0 : Int)) || impl_AreAdmitted_1 (laws_toPairEventS_0 x0),
    decide (laws_szPairEventS_0 x0 (1048576 : Int) < (0 : Int)) ||
      (!impl_AreAdmitted_0 (laws_toPairEventS_0 x0) == spec_AreAdmitted_0 (laws_toPairEventS_0 x0) || laws_toPairEventS_1 x0),
    decide (laws_szPairEventS_0 x0 (1048576 : Int) < (0 : Int)) ||
      (!impl_AreAdmitted_0 (laws_toPairEventS_0 x0) == spec_AreAdmitted_0 (laws_toPairEventS_0 x0) ||
        laws_eqPairEventS_1 (laws_toPairEventS_0 x0) (laws_toPairEventS_0 x0))]

def F_laws_FnExactAreAdmitted : List SV → List Entry → Option Out
  | [.one ⟨false, [.ref 0]⟩], [.row false 45 (.pair (.int .i64) (.pair (.int .i64) (.pair (.bool) (.bool)))) x0] => some ⟨(.one ⟨false, [(.val (.bool (laws_FnExactAreAdmitted_0 x0)))]⟩), [(.row false 45 (CTy.pair (CTy.int IntKind.i64) (CTy.pair (CTy.int IntKind.i64) (CTy.pair CTy.bool CTy.bool))) x0)], [], [(laws_FnExactAreAdmitted_1 x0)]⟩
  | _, _ => none

def p_laws_FnExactAreAdmitted : PF Try.prog := PF.ofG Try.prog [p_laws_szPairEventS, PF.lend p_laws_szPairEventS, PF.fz p_laws_szPairEventS, p_spec_AreAdmitted, PF.lend p_spec_AreAdmitted, PF.fz p_spec_AreAdmitted, p_laws_toPairEventS, PF.lend p_laws_toPairEventS, PF.fz p_laws_toPairEventS, p_impl_AreAdmitted, PF.lend p_impl_AreAdmitted, PF.fz p_impl_AreAdmitted, p_laws_eqPairEventS, PF.lend p_laws_eqPairEventS, PF.fz p_laws_eqPairEventS] [] hmix 7 Try.f7 Try.func7 (fun c _ => LOk.nil c) F_laws_FnExactAreAdmitted (by
  intro vs es r h; unfold F_laws_FnExactAreAdmitted at h; split at h
  · cases h; kernel_rfl
  · cases h)

def spec_GreatestActive_0 (x0 : Int) (x1 : Int) (x2 : Int) (x3 : Int) (x4 : List (Int × Int × Bool × Bool)) : Int :=
  spec_l31Run_4 x0 x1 x2 x3 x4

def spec_GreatestActive_1 (x0 : Int) (x1 : Int) (x2 : Int) (x3 : Int) (x4 : List (Int × Int × Bool × Bool)) : Int :=
  spec_l31Run_5 x0 x1 x2 x3 x4

def spec_GreatestActive_2 (x0 : Int) (x1 : Int) (x2 : Int) (x3 : Int) (x4 : List (Int × Int × Bool × Bool)) : Bool :=
  allT [spec_l31Run_6 x0 x1 x2 x3 x4]

def F_spec_GreatestActive : List SV → List Entry → Option Out
  | [.one ⟨true, [.val (.int .i64 x0), .val (.int .i64 x1), .val (.int .i64 x2), .val (.int .i64 x3)]⟩, .one ⟨false, [.ref 0]⟩], [.row false 48 (.pair (.int .i64) (.pair (.int .i64) (.pair (.bool) (.bool)))) x4] => some ⟨(.tup [⟨false, [(.val (.int IntKind.i64 (spec_GreatestActive_0 x0 x1 x2 x3 x4)))]⟩, ⟨false, [(.val (.int IntKind.i64 (spec_GreatestActive_1 x0 x1 x2 x3 x4)))]⟩]), [(.row false 48 (CTy.pair (CTy.int IntKind.i64) (CTy.pair (CTy.int IntKind.i64) (CTy.pair CTy.bool CTy.bool))) x4)], [], [(spec_GreatestActive_2 x0 x1 x2 x3 x4)]⟩
  | _, _ => none

def p_spec_GreatestActive : PF Try.prog := PF.ofG Try.prog [p_spec_l31Run, PF.lend p_spec_l31Run, PF.fz p_spec_l31Run] [] hmix 35 Try.f35 Try.func35 (fun c _ => LOk.nil c) F_spec_GreatestActive (by
  intro vs es r h; unfold F_spec_GreatestActive at h; split at h
  · cases h; kernel_rfl
  · cases h)

abbrev X_impl_GreatestActive_l0 := Int × Int × Int × List ((Int × Int) × (Int × Int))

def impl_GreatestActive_l0_0 (y0 : Int) (y1 : Int) : Bool :=
  decide (y0 < y1)

def impl_GreatestActive_l0_1 (y0 : Int) : Bool :=
  decide ((0 : Int) ≤ y0)

def impl_GreatestActive_l0_2 (y0 : Int) (y3 : List ((Int × Int) × (Int × Int))) : Bool :=
  decide (y0 < (↑(List.length y3) : Int))

def impl_GreatestActive_l0_3 (y0 : Int) (y3 : List ((Int × Int) × (Int × Int))) : Bool :=
  decide (Int.toNat y0 < List.length y3)

def impl_GreatestActive_l0_4 (y0 : Int) : Int :=
  IntKind.wrap IntKind.i64 (y0 + (1 : Int))

def impl_GreatestActive_l0_5 (y0 : Int) (y2 : Int) (y3 : List ((Int × Int) × (Int × Int))) : Int :=
  if
    loop_example_g00916_impl_Pair_active_0 (Prod.fst (Prod.fst (Option.getD y3[Int.toNat y0]? (((0 : Int), (0 : Int)), (0 : Int), (0 : Int)))))
        (Prod.fst (Prod.snd (Option.getD y3[Int.toNat y0]? (((0 : Int), (0 : Int)), (0 : Int), (0 : Int))))) >
      y2 then
  loop_example_g00916_impl_Pair_active_0 (Prod.fst (Prod.fst (Option.getD y3[Int.toNat y0]? (((0 : Int), (0 : Int)), (0 : Int), (0 : Int)))))
    (Prod.fst (Prod.snd (Option.getD y3[Int.toNat y0]? (((0 : Int), (0 : Int)), (0 : Int), (0 : Int)))))
  else y2

def JL_impl_GreatestActive_l0 : X_impl_GreatestActive_l0 → List (Nat × SV)
  | (y0, y1, y2, _) => [(19, (.one ⟨false, [(.val (.int IntKind.i64 y0))]⟩)), (18, (.one ⟨false, [(.val (.int IntKind.i64 y1))]⟩)), (17, (.one ⟨false, [(.ref 0)]⟩)), (8, (.one ⟨false, [(.val (.int IntKind.i64 y2))]⟩))]

def JE_impl_GreatestActive_l0 : X_impl_GreatestActive_l0 → List (Nat × Entry)
  | (_, _, _, y3) => [(0, (.row true 30 (CTy.pair (CTy.pair (CTy.int IntKind.i64) (CTy.int IntKind.i64)) (CTy.pair (CTy.int IntKind.i64) (CTy.int IntKind.i64))) y3))]

def XL_impl_GreatestActive_l0 : Nat → X_impl_GreatestActive_l0 → List (Nat × SV)
  | _, (_, _, y2, _) => [(8, (.one ⟨false, [(.val (.int IntKind.i64 y2))]⟩))]

def XE_impl_GreatestActive_l0 : Nat → X_impl_GreatestActive_l0 → List (Nat × Entry)
  | _, (_, _, _, y3) => [(0, (.row true 30 (CTy.pair (CTy.pair (CTy.int IntKind.i64) (CTy.int IntKind.i64)) (CTy.pair (CTy.int IntKind.i64) (CTy.int IntKind.i64))) y3))]

def lt_impl_GreatestActive_l0 : X_impl_GreatestActive_l0 → LT X_impl_GreatestActive_l0
  | (y0, y1, y2, y3) => .ite (impl_GreatestActive_l0_0 y0 y1) (.need [(impl_GreatestActive_l0_1 y0), (impl_GreatestActive_l0_2 y0 y3), (impl_GreatestActive_l0_3 y0 y3)] (.nrm ((impl_GreatestActive_l0_4 y0), y1, (impl_GreatestActive_l0_5 y0 y2 y3), y3) [(0, 0)])) (.ext 0 [(0, 0)])

def rd_impl_GreatestActive_l0 (s : St) : Option X_impl_GreatestActive_l0 :=
  (match s.look 19 with
  | some ⟨none, (.one ⟨false, [(.val (.int IntKind.i64 y0))]⟩)⟩ =>
  (match s.look 18 with
  | some ⟨none, (.one ⟨false, [(.val (.int IntKind.i64 y1))]⟩)⟩ =>
  (match s.look 17 with
  | some ⟨none, (.one ⟨false, [(.ref 448)]⟩)⟩ =>
  (match s.look 8 with
  | some ⟨none, (.one ⟨false, [(.val (.int IntKind.i64 y2))]⟩)⟩ =>
  (match s.ent 448 with
  | some (.row true 30 (CTy.pair (CTy.pair (CTy.int IntKind.i64) (CTy.int IntKind.i64)) (CTy.pair (CTy.int IntKind.i64) (CTy.int IntKind.i64))) y3) =>
  some (y0, y1, y2, y3)
  | _ => none)
  | _ => none)
  | _ => none)
  | _ => none)
  | _ => none)

def lp_impl_GreatestActive_l0 : Lp X_impl_GreatestActive_l0 where
  h := ⟨[20, 21, 22, 10, 23, 24, 25, 26, 8, 27, 19], [0], [], []⟩
  JL := JL_impl_GreatestActive_l0
  JE := JE_impl_GreatestActive_l0
  XL := XL_impl_GreatestActive_l0
  XE := XE_impl_GreatestActive_l0
  q := fun j => match j with | _ => .exit 0
  tags := [0]
  lt := lt_impl_GreatestActive_l0
  fuel := fun (y0, y1, y2, y3) => y0.natAbs + y1.natAbs + y2.natAbs + y3.length
  fix := fun (_, y1, _, y3) (y0, _, y2, _) => (y0, y1, y2, y3)
  σ := [(0, 448)]
  rd := rd_impl_GreatestActive_l0

theorem lpok_impl_GreatestActive_l0 : LoopOk Try.prog (fun k => Nat.blt k Try.f36.ntmps) lp_impl_GreatestActive_l0.F (loopAt Try.f36 0) := by
  refine Lp.ok (tbl := [p_loop_example_g00916_impl_Pair_active, p_impl_runPair, PF.lend p_impl_runPair, PF.fz p_impl_runPair]) (lf := []) hmix lp_impl_GreatestActive_l0 (by kernel_rfl) (LOk.nil _) (fun _ => rfl) (fun _ _ => rfl) ?_ ?_ ?_ ?_ (fun _ => rfl) ?_
  · intro x; obtain ⟨y0, y1, y2, y3⟩ := x; kernel_rfl
  · intro x; obtain ⟨y0, y1, y2, y3⟩ := x; kernel_rfl
  · intro s x h
    have h : rd_impl_GreatestActive_l0 s = some x := h
    unfold rd_impl_GreatestActive_l0 at h
    repeat' split at h
    all_goals cases h
    exact ⟨absS_cons (by assumption) rfl (absS_cons (by assumption) rfl (absS_cons (by assumption) rfl (absS_cons (by assumption) rfl (rfl)))), absE_cons rfl (by assumption) rfl (rfl)⟩
  · intro x; obtain ⟨y0, y1, y2, y3⟩ := x; kernel_rfl
  · intro x z; obtain ⟨y0, y1, y2, y3⟩ := x; exact (And.intro rfl trivial)

def impl_GreatestActive_0 (x0 : Int) (x1 : Int) (x2 : Int) (x3 : Int) (x4 : List (Int × Int × Bool × Bool)) : Int :=
  Prod.fst
  (Prod.snd
    (Prod.snd
      (Prod.snd
        (Lp.res lp_impl_GreatestActive_l0
          ((0 : Int), (↑(List.length (impl_runPair_1 x0 x1 x2 x3 x4)) : Int), (0 : Int), impl_runPair_1 x0 x1 x2 x3 x4)))))

def impl_GreatestActive_1 (x0 : Int) (x1 : Int) (x2 : Int) (x3 : Int) (x4 : List (Int × Int × Bool × Bool)) : Int :=
  impl_runPair_0 x0 x1 x2 x3 x4

def impl_GreatestActive_2 (x0 : Int) (x1 : Int) (x2 : Int) (x3 : Int) (x4 : List (Int × Int × Bool × Bool)) : Bool :=
  allT
  [impl_runPair_2 x0 x1 x2 x3 x4,
    Lp.fin lp_impl_GreatestActive_l0 ((0 : Int), (↑(List.length (impl_runPair_1 x0 x1 x2 x3 x4)) : Int), (0 : Int), impl_runPair_1 x0 x1 x2 x3 x4)]

def F_impl_GreatestActive : List SV → List Entry → Option Out
  | [.one ⟨true, [.val (.int .i64 x0), .val (.int .i64 x1), .val (.int .i64 x2), .val (.int .i64 x3)]⟩, .one ⟨false, [.ref 0]⟩], [.row false 48 (.pair (.int .i64) (.pair (.int .i64) (.pair (.bool) (.bool)))) x4] => some ⟨(.tup [⟨false, [(.val (.int IntKind.i64 (impl_GreatestActive_0 x0 x1 x2 x3 x4)))]⟩, ⟨false, [(.val (.int IntKind.i64 (impl_GreatestActive_1 x0 x1 x2 x3 x4)))]⟩]), [(.row false 48 (CTy.pair (CTy.int IntKind.i64) (CTy.pair (CTy.int IntKind.i64) (CTy.pair CTy.bool CTy.bool))) x4)], [], [(impl_GreatestActive_2 x0 x1 x2 x3 x4)]⟩
  | _, _ => none

def p_impl_GreatestActive : PF Try.prog := PF.ofG Try.prog [p_loop_example_g00916_impl_Pair_active, p_impl_runPair, PF.lend p_impl_runPair, PF.fz p_impl_runPair] [lp_impl_GreatestActive_l0.F] hmix 36 Try.f36 Try.func36 (LOk.fnT (l := [loopAt Try.f36 0]) (by kernel_rfl) (.cons lpok_impl_GreatestActive_l0 (.nil _))) F_impl_GreatestActive (by
  intro vs es r h; unfold F_impl_GreatestActive at h; split at h
  · cases h; kernel_rfl
  · cases h)

def laws_FnExactGreatestActive_0 (x0 : Int) (x1 : Int) (x2 : Int) (x3 : Int) (x4 : List (Int × Int × Bool × Bool)) : Bool :=
  bif decide (laws_szPairEventS_0 x4 (1048576 : Int) < (0 : Int)) then true
  else
  bif
      bif impl_GreatestActive_0 x0 x1 x2 x3 (laws_toPairEventS_0 x4) != spec_GreatestActive_0 x0 x1 x2 x3 (laws_toPairEventS_0 x4) then true
      else impl_GreatestActive_1 x0 x1 x2 x3 (laws_toPairEventS_0 x4) != spec_GreatestActive_1 x0 x1 x2 x3 (laws_toPairEventS_0 x4) then
    false
  else bif !laws_eqPairEventS_0 (laws_toPairEventS_0 x4) (laws_toPairEventS_0 x4) then false else true

def laws_FnExactGreatestActive_1 (x0 : Int) (x1 : Int) (x2 : Int) (x3 : Int) (x4 : List (Int × Int × Bool × Bool)) : Bool :=
  allT
  [decide (laws_szPairEventS_0 x4 (1048576 : Int) < (0 : Int)) || laws_toPairEventS_1 x4,
    decide (laws_szPairEventS_0 x4 (1048576 : Int) < (0 : Int)) || spec_GreatestActive_2 x0 x1 x2 x3 (laws_toPairEventS_0 x4),
    decide (laws_szPairEventS_0 x4 (1048576 : Int) < (0 : Int)) || laws_toPairEventS_1 x4,
    decide (laws_szPairEventS_0 x4 (1048576 : Int) < (0 : Int)) || impl_GreatestActive_2 x0 x1 x2 x3 (laws_toPairEventS_0 x4),
    decide (laws_szPairEventS_0 x4 (1048576 : Int) < (0 : Int)) ||
      ((bif impl_GreatestActive_0 x0 x1 x2 x3 (laws_toPairEventS_0 x4) != spec_GreatestActive_0 x0 x1 x2 x3 (laws_toPairEventS_0 x4) then true
        else impl_GreatestActive_1 x0 x1 x2 x3 (laws_toPairEventS_0 x4) != spec_GreatestActive_1 x0 x1 x2 x3 (laws_toPairEventS_0 x4)) ||
        laws_toPairEventS_1 x4),
    decide (laws_szPairEventS_0 x4 (1048576 : Int) < (0 : Int)) ||
      ((bif impl_GreatestActive_0 x0 x1 x2 x3 (laws_toPairEventS_0 x4) != spec_GreatestActive_0 x0 x1 x2 x3 (laws_toPairEventS_0 x4) then true
        else impl_GreatestActive_1 x0 x1 x2 x3 (laws_toPairEventS_0 x4) != spec_GreatestActive_1 x0 x1 x2 x3 (laws_toPairEventS_0 x4)) ||
        laws_eqPairEventS_1 (laws_toPairEventS_0 x4) (laws_toPairEventS_0 x4))]

def F_laws_FnExactGreatestActive : List SV → List Entry → Option Out
  | [.one ⟨true, [.val (.int .i64 x0), .val (.int .i64 x1), .val (.int .i64 x2), .val (.int .i64 x3)]⟩, .one ⟨false, [.ref 0]⟩], [.row false 45 (.pair (.int .i64) (.pair (.int .i64) (.pair (.bool) (.bool)))) x4] => some ⟨(.one ⟨false, [(.val (.bool (laws_FnExactGreatestActive_0 x0 x1 x2 x3 x4)))]⟩), [(.row false 45 (CTy.pair (CTy.int IntKind.i64) (CTy.pair (CTy.int IntKind.i64) (CTy.pair CTy.bool CTy.bool))) x4)], [], [(laws_FnExactGreatestActive_1 x0 x1 x2 x3 x4)]⟩
  | _, _ => none

def p_laws_FnExactGreatestActive : PF Try.prog := PF.ofG Try.prog [p_laws_toPair, p_laws_szPairEventS, PF.lend p_laws_szPairEventS, PF.fz p_laws_szPairEventS, p_laws_toPairEventS, PF.lend p_laws_toPairEventS, PF.fz p_laws_toPairEventS, p_laws_eqPairEventS, PF.lend p_laws_eqPairEventS, PF.fz p_laws_eqPairEventS, p_spec_GreatestActive, PF.lend p_spec_GreatestActive, PF.fz p_spec_GreatestActive, p_impl_GreatestActive, PF.lend p_impl_GreatestActive, PF.fz p_impl_GreatestActive] [] hmix 8 Try.f8 Try.func8 (fun c _ => LOk.nil c) F_laws_FnExactGreatestActive (by
  intro vs es r h; unfold F_laws_FnExactGreatestActive at h; split at h
  · cases h; kernel_rfl
  · cases h)

def laws_FnExactRunPair_0 (x0 : Int) (x1 : Int) (x2 : Int) (x3 : Int) (x4 : List (Int × Int × Bool × Bool)) : Bool :=
  bif decide (laws_szPairEventS_0 x4 (1048576 : Int) < (0 : Int)) then true
  else
  bif
      bif
          !laws_eqPair_0 (impl_RunPair_0 x0 x1 x2 x3 (laws_toPairEventS_0 x4)) (impl_RunPair_1 x0 x1 x2 x3 (laws_toPairEventS_0 x4))
              (impl_RunPair_2 x0 x1 x2 x3 (laws_toPairEventS_0 x4)) (impl_RunPair_3 x0 x1 x2 x3 (laws_toPairEventS_0 x4))
              (spec_RunPair_0 x0 x1 x2 x3 (laws_toPairEventS_0 x4)) (spec_RunPair_1 x0 x1 x2 x3 (laws_toPairEventS_0 x4))
              (spec_RunPair_2 x0 x1 x2 x3 (laws_toPairEventS_0 x4)) (spec_RunPair_3 x0 x1 x2 x3 (laws_toPairEventS_0 x4)) then
        true
      else impl_RunPair_4 x0 x1 x2 x3 (laws_toPairEventS_0 x4) != spec_RunPair_4 x0 x1 x2 x3 (laws_toPairEventS_0 x4) then
    false
  else bif !laws_eqPairEventS_0 (laws_toPairEventS_0 x4) (laws_toPairEventS_0 x4) then false else true

def laws_FnExactRunPair_1 (x0 : Int) (x1 : Int) (x2 : Int) (x3 : Int) (x4 : List (Int × Int × Bool × Bool)) : Bool :=
  allT
  [decide (laws_szPairEventS_0 x4 (1048576 : Int) < (0 : Int)) || laws_toPairEventS_1 x4,
    decide (laws_szPairEventS_0 x4 (1048576 : Int) < (0 : Int)) || spec_RunPair_5 x0 x1 x2 x3 (laws_toPairEventS_0 x4),
    decide (laws_szPairEventS_0 x4 (1048576 : Int) < (0 : Int)) || laws_toPairEventS_1 x4,
    decide (laws_szPairEventS_0 x4 (1048576 : Int) < (0 : Int)) || impl_RunPair_5 x0 x1 x2 x3 (laws_toPairEventS_0 x4),
    decide (laws_szPairEventS_0 x4 (1048576 : Int) < (0 : Int)) ||
      ((bif
            !laws_eqPair_0 (impl_RunPair_0 x0 x1 x2 x3 (laws_toPairEventS_0 x4)) (impl_RunPair_1 x0 x1 x2 x3 (laws_toPairEventS_0 x4))
                (impl_RunPair_2 x0 x1 x2 x3 (laws_toPairEventS_0 x4)) (impl_RunPair_3 x0 x1 x2 x3 (laws_toPairEventS_0 x4))
                (spec_RunPair_0 x0 x1 x2 x3 (laws_toPairEventS_0 x4)) (spec_RunPair_1 x0 x1 x2 x3 (laws_toPairEventS_0 x4))
                (spec_RunPair_2 x0 x1 x2 x3 (laws_toPairEventS_0 x4)) (spec_RunPair_3 x0 x1 x2 x3 (laws_toPairEventS_0 x4)) then
          true
        else impl_RunPair_4 x0 x1 x2 x3 (laws_toPairEventS_0 x4) != spec_RunPair_4 x0 x1 x2 x3 (laws_toPairEventS_0 x4)) ||
        laws_toPairEventS_1 x4),
    decide (laws_szPairEventS_0 x4 (1048576 : Int) < (0 : Int)) ||
      ((bif
            !laws_eqPair_0 (impl_RunPair_0 x0 x1 x2 x3 (laws_toPairEventS_0 x4)) (impl_RunPair_1 x0 x1 x2 x3 (laws_toPairEventS_0 x4))
                (impl_RunPair_2 x0 x1 x2 x3 (laws_toPairEventS_0 x4)) (impl_RunPair_3 x0 x1 x2 x3 (laws_toPairEventS_0 x4))
                (spec_RunPair_0 x0 x1 x2 x3 (laws_toPairEventS_0 x4)) (spec_RunPair_1 x0 x1 x2 x3 (laws_toPairEventS_0 x4))
                (spec_RunPair_2 x0 x1 x2 x3 (laws_toPairEventS_0 x4)) (spec_RunPair_3 x0 x1 x2 x3 (laws_toPairEventS_0 x4)) then
          true
        else impl_RunPair_4 x0 x1 x2 x3 (laws_toPairEventS_0 x4) != spec_RunPair_4 x0 x1 x2 x3 (laws_toPairEventS_0 x4)) ||
        laws_eqPairEventS_1 (laws_toPairEventS_0 x4) (laws_toPairEventS_0 x4))]

def F_laws_FnExactRunPair : List SV → List Entry → Option Out
  | [.one ⟨true, [.val (.int .i64 x0), .val (.int .i64 x1), .val (.int .i64 x2), .val (.int .i64 x3)]⟩, .one ⟨false, [.ref 0]⟩], [.row false 45 (.pair (.int .i64) (.pair (.int .i64) (.pair (.bool) (.bool)))) x4] => some ⟨(.one ⟨false, [(.val (.bool (laws_FnExactRunPair_0 x0 x1 x2 x3 x4)))]⟩), [(.row false 45 (CTy.pair (CTy.int IntKind.i64) (CTy.pair (CTy.int IntKind.i64) (CTy.pair CTy.bool CTy.bool))) x4)], [], [(laws_FnExactRunPair_1 x0 x1 x2 x3 x4)]⟩
  | _, _ => none

def p_laws_FnExactRunPair : PF Try.prog := PF.ofG Try.prog [p_laws_toPair, p_laws_eqPair, p_impl_RunPair, PF.lend p_impl_RunPair, PF.fz p_impl_RunPair, p_laws_szPairEventS, PF.lend p_laws_szPairEventS, PF.fz p_laws_szPairEventS, p_laws_toPairEventS, PF.lend p_laws_toPairEventS, PF.fz p_laws_toPairEventS, p_laws_eqPairEventS, PF.lend p_laws_eqPairEventS, PF.fz p_laws_eqPairEventS, p_spec_RunPair, PF.lend p_spec_RunPair, PF.fz p_spec_RunPair] [] hmix 9 Try.f9 Try.func9 (fun c _ => LOk.nil c) F_laws_FnExactRunPair (by
  intro vs es r h; unfold F_laws_FnExactRunPair at h; split at h
  · cases h; kernel_rfl
  · cases h)

end Go.SX
