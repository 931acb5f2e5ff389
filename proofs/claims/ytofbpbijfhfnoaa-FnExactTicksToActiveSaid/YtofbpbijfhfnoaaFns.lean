import Derived.Test.YtofbpbijfhfnoaaSXb
import Derived.Test.YtofbpbijfhfnoaaProg
namespace Go.SX
open Go.Proofs
set_option maxRecDepth 100000
theorem hmix : Try.prog.follows .mixedOrders = true := by kernel_rfl

def F_laws_toPairEvent : List Value → Option (Value × List Bool)
  | [.agg ⟨[.int .i64 x0, .int .i64 x1, .bool x2, .bool x3]⟩] => some ((.agg ⟨[(.int IntKind.i64 x0), (.int IntKind.i64 x1), (.bool x2), (.bool x3)]⟩), [])
  | _ => none

def p_laws_toPairEvent : PF Try.prog := PF.ofV Try.prog [] hmix 23 Try.f23 Try.func23 F_laws_toPairEvent (by
  intro vs r h; unfold F_laws_toPairEvent at h; split at h
  · cases h; exact ⟨Nat.le_of_ble_eq_true (by kernel_rfl), by kernel_rfl⟩
  · cases h)

def spec_l31Up_0 (x0 : Int) : Bool :=
  x0 != 2

def F_spec_l31Up : List Value → Option (Value × List Bool)
  | [.agg ⟨[.int .i64 x0, .int .i64 _x1]⟩] => some ((.bool (spec_l31Up_0 x0)), [])
  | _ => none

def p_spec_l31Up : PF Try.prog := PF.ofV Try.prog [] hmix 47 Try.f47 Try.func47 F_spec_l31Up (by
  intro vs r h; unfold F_spec_l31Up at h; split at h
  · cases h; exact ⟨Nat.le_of_ble_eq_true (by kernel_rfl), by kernel_rfl⟩
  · cases h)

def spec_l31Active_0 (x0 : Int) (x2 : Int) : Int :=
  bif x2 == 1 then IntKind.i64.wrap ((bif x0 == 1 then IntKind.i64.wrap (0 + 1) else 0) + 1) else bif x0 == 1 then IntKind.i64.wrap (0 + 1) else 0

def F_spec_l31Active : List Value → Option (Value × List Bool)
  | [.agg ⟨[.int .i64 x0, .int .i64 _x1, .int .i64 x2, .int .i64 _x3]⟩] => some ((.int IntKind.i64 (spec_l31Active_0 x0 x2)), [])
  | _ => none

def p_spec_l31Active : PF Try.prog := PF.ofV Try.prog [] hmix 48 Try.f48 Try.func48 F_spec_l31Active (by
  intro vs r h; unfold F_spec_l31Active at h; split at h
  · cases h; exact ⟨Nat.le_of_ble_eq_true (by kernel_rfl), by kernel_rfl⟩
  · cases h)

def F_laws_toController : List Value → Option (Value × List Bool)
  | [.agg ⟨[.int .i64 x0, .int .i64 x1]⟩] => some ((.agg ⟨[(.int IntKind.i64 x0), (.int IntKind.i64 x1)]⟩), [])
  | _ => none

def p_laws_toController : PF Try.prog := PF.ofV Try.prog [] hmix 50 Try.f50 Try.func50 F_laws_toController (by
  intro vs r h; unfold F_laws_toController at h; split at h
  · cases h; exact ⟨Nat.le_of_ble_eq_true (by kernel_rfl), by kernel_rfl⟩
  · cases h)

def impl_Controller_isUp_0 (x0 : Int) : Bool :=
  x0 != 2

def F_impl_Controller_isUp : List Value → Option (Value × List Bool)
  | [.agg ⟨[.int .i64 x0, .int .i64 _x1]⟩] => some ((.bool (impl_Controller_isUp_0 x0)), [])
  | _ => none

def p_impl_Controller_isUp : PF Try.prog := PF.ofV Try.prog [] hmix 51 Try.f51 Try.func51 F_impl_Controller_isUp (by
  intro vs r h; unfold F_impl_Controller_isUp at h; split at h
  · cases h; exact ⟨Nat.le_of_ble_eq_true (by kernel_rfl), by kernel_rfl⟩
  · cases h)

def laws_eqController_0 (x0 : Int) (x1 : Int) (x2 : Int) (x3 : Int) : Bool :=
  bif x0 != x2 then false else bif x1 != x3 then false else true

def F_laws_eqController : List Value → Option (Value × List Bool)
  | [.agg ⟨[.int .i64 x0, .int .i64 x1]⟩, .agg ⟨[.int .i64 x2, .int .i64 x3]⟩] => some ((.bool (laws_eqController_0 x0 x1 x2 x3)), [])
  | _ => none

def p_laws_eqController : PF Try.prog := PF.ofV Try.prog [] hmix 64 Try.f64 Try.func64 F_laws_eqController (by
  intro vs r h; unfold F_laws_eqController at h; split at h
  · cases h; exact ⟨Nat.le_of_ble_eq_true (by kernel_rfl), by kernel_rfl⟩
  · cases h)

def spec_l31Lost_0 (x0 : Int) (x1 : Bool) : Int :=
  bif x1 then IntKind.i64.wrap (x0 + 1) else 0

def F_spec_l31Lost : List Value → Option (Value × List Bool)
  | [.int .i64 x0, .bool x1] => some ((.int IntKind.i64 (spec_l31Lost_0 x0 x1)), [])
  | _ => none

def p_spec_l31Lost : PF Try.prog := PF.ofV Try.prog [] hmix 68 Try.f68 Try.func68 F_spec_l31Lost (by
  intro vs r h; unfold F_spec_l31Lost at h; split at h
  · cases h; exact ⟨Nat.le_of_ble_eq_true (by kernel_rfl), by kernel_rfl⟩
  · cases h)

def laws_eqPairEvent_0 (x0 : Int) (x1 : Int) (x2 : Bool) (x3 : Bool) (x4 : Int) (x5 : Int) (x6 : Bool) (x7 : Bool) : Bool :=
  bif x0 != x4 then false else bif x1 != x5 then false else bif !x2 == x6 then false else bif !x3 == x7 then false else true

def F_laws_eqPairEvent : List Value → Option (Value × List Bool)
  | [.agg ⟨[.int .i64 x0, .int .i64 x1, .bool x2, .bool x3]⟩, .agg ⟨[.int .i64 x4, .int .i64 x5, .bool x6, .bool x7]⟩] => some ((.bool (laws_eqPairEvent_0 x0 x1 x2 x3 x4 x5 x6 x7)), [])
  | _ => none

def p_laws_eqPairEvent : PF Try.prog := PF.ofV Try.prog [] hmix 70 Try.f70 Try.func70 F_laws_eqPairEvent (by
  intro vs r h; unfold F_laws_eqPairEvent at h; split at h
  · cases h; exact ⟨Nat.le_of_ble_eq_true (by kernel_rfl), by kernel_rfl⟩
  · cases h)

def impl_within_0 (x0 : Int) (x1 : Int) (x2 : Int) : Bool :=
  bif decide (x0 ≥ x1) then decide (x0 ≤ x2) else false

def F_impl_within : List Value → Option (Value × List Bool)
  | [.int .i64 x0, .int .i64 x1, .int .i64 x2] => some ((.bool (impl_within_0 x0 x1 x2)), [])
  | _ => none

def p_impl_within : PF Try.prog := PF.ofV Try.prog [] hmix 77 Try.f77 Try.func77 F_impl_within (by
  intro vs r h; unfold F_impl_within at h; split at h
  · cases h; exact ⟨Nat.le_of_ble_eq_true (by kernel_rfl), by kernel_rfl⟩
  · cases h)

def spec_l01In_0 (x0 : Int) (x1 : Int) (x2 : Int) : Bool :=
  bif decide (x0 ≥ x1) then decide (x0 ≤ x2) else false

def F_spec_l01In : List Value → Option (Value × List Bool)
  | [.int .i64 x0, .int .i64 x1, .int .i64 x2] => some ((.bool (spec_l01In_0 x0 x1 x2)), [])
  | _ => none

def p_spec_l01In : PF Try.prog := PF.ofV Try.prog [] hmix 78 Try.f78 Try.func78 F_spec_l01In (by
  intro vs r h; unfold F_spec_l01In at h; split at h
  · cases h; exact ⟨Nat.le_of_ble_eq_true (by kernel_rfl), by kernel_rfl⟩
  · cases h)

def spec_l31Tick_0 (x0 : Int) (x1 : Int) (x2 : Int) (x3 : Int) (x4 : Bool) (x5 : Bool) : Int :=
  bif !spec_l31Up_0 x0 then x0
else
  bif
      bif (bif bif spec_l31Up_0 x2 then !x4 else false then 0 else if IntKind.i64.wrap (x1 + 1) < 6 then IntKind.i64.wrap (x1 + 1) else 6) == 6 then
        true
      else bif bif bif x5 then bif spec_l31Up_0 x2 then !x4 else false else false then x2 == 0 else false then decide (x3 ≤ 2) else false then
    1
  else x0

def spec_l31Tick_1 (x0 : Int) (x1 : Int) (x2 : Int) (x4 : Bool) : Int :=
  bif !spec_l31Up_0 x0 then x1
else bif bif spec_l31Up_0 x2 then !x4 else false then 0 else if IntKind.i64.wrap (x1 + 1) < 6 then IntKind.i64.wrap (x1 + 1) else 6

def F_spec_l31Tick : List Value → Option (Value × List Bool)
  | [.agg ⟨[.int .i64 x0, .int .i64 x1]⟩, .agg ⟨[.int .i64 x2, .int .i64 x3]⟩, .bool x4, .bool x5] => some ((.agg ⟨[(.int IntKind.i64 (spec_l31Tick_0 x0 x1 x2 x3 x4 x5)), (.int IntKind.i64 (spec_l31Tick_1 x0 x1 x2 x4))]⟩), [])
  | _ => none

def p_spec_l31Tick : PF Try.prog := PF.ofV Try.prog [p_spec_l31Up] hmix 79 Try.f79 Try.func79 F_spec_l31Tick (by
  intro vs r h; unfold F_spec_l31Tick at h; split at h
  · cases h; exact ⟨Nat.le_of_ble_eq_true (by kernel_rfl), by kernel_rfl⟩
  · cases h)

def impl_truth_0 (x0 : Bool) : Int :=
  bif x0 then 1 else 0

def F_impl_truth : List Value → Option (Value × List Bool)
  | [.bool x0] => some ((.int IntKind.i64 (impl_truth_0 x0)), [])
  | _ => none

def p_impl_truth : PF Try.prog := PF.ofV Try.prog [] hmix 80 Try.f80 Try.func80 F_impl_truth (by
  intro vs r h; unfold F_impl_truth at h; split at h
  · cases h; exact ⟨Nat.le_of_ble_eq_true (by kernel_rfl), by kernel_rfl⟩
  · cases h)

def impl_Controller_tick_0 (x0 : Int) (x1 : Int) (x2 : Int) (x3 : Int) (x4 : Bool) (x5 : Bool) : Int :=
  bif !impl_Controller_isUp_0 x0 then x0
else
  bif
      bif x0 == 0 then
        bif
            (bif bif impl_Controller_isUp_0 x2 then !x4 else false then 0
              else if 6 < IntKind.i64.wrap (x1 + 1) then 6 else IntKind.i64.wrap (x1 + 1)) ==
              6 then
          true
        else bif bif bif x5 then bif impl_Controller_isUp_0 x2 then !x4 else false else false then x2 == 0 else false then decide (x3 ≤ 2) else false
      else false then
    1
  else bif bif impl_Controller_isUp_0 x2 then !x4 else false then x0 else x0

def impl_Controller_tick_1 (x0 : Int) (x1 : Int) (x2 : Int) (x3 : Int) (x4 : Bool) (x5 : Bool) : Int :=
  bif !impl_Controller_isUp_0 x0 then x1
else
  bif
      bif x0 == 0 then
        bif
            (bif bif impl_Controller_isUp_0 x2 then !x4 else false then 0
              else if 6 < IntKind.i64.wrap (x1 + 1) then 6 else IntKind.i64.wrap (x1 + 1)) ==
              6 then
          true
        else bif bif bif x5 then bif impl_Controller_isUp_0 x2 then !x4 else false else false then x2 == 0 else false then decide (x3 ≤ 2) else false
      else false then
    bif bif impl_Controller_isUp_0 x2 then !x4 else false then 0 else if 6 < IntKind.i64.wrap (x1 + 1) then 6 else IntKind.i64.wrap (x1 + 1)
  else bif bif impl_Controller_isUp_0 x2 then !x4 else false then 0 else if 6 < IntKind.i64.wrap (x1 + 1) then 6 else IntKind.i64.wrap (x1 + 1)

def F_impl_Controller_tick : List Value → Option (Value × List Bool)
  | [.agg ⟨[.int .i64 x0, .int .i64 x1]⟩, .agg ⟨[.int .i64 x2, .int .i64 x3]⟩, .bool x4, .bool x5] => some ((.agg ⟨[(.int IntKind.i64 (impl_Controller_tick_0 x0 x1 x2 x3 x4 x5)), (.int IntKind.i64 (impl_Controller_tick_1 x0 x1 x2 x3 x4 x5))]⟩), [])
  | _ => none

def p_impl_Controller_tick : PF Try.prog := PF.ofV Try.prog [p_impl_Controller_isUp] hmix 81 Try.f81 Try.func81 F_impl_Controller_tick (by
  intro vs r h; unfold F_impl_Controller_tick at h; split at h
  · cases h; exact ⟨Nat.le_of_ble_eq_true (by kernel_rfl), by kernel_rfl⟩
  · cases h)

def impl_isBlockCount_0 (x0 : Int) : Bool :=
  impl_within_0 x0 2 8

def F_impl_isBlockCount : List Value → Option (Value × List Bool)
  | [.int .i64 x0] => some ((.bool (impl_isBlockCount_0 x0)), [])
  | _ => none

def p_impl_isBlockCount : PF Try.prog := PF.ofV Try.prog [p_impl_within] hmix 84 Try.f84 Try.func84 F_impl_isBlockCount (by
  intro vs r h; unfold F_impl_isBlockCount at h; split at h
  · cases h; exact ⟨Nat.le_of_ble_eq_true (by kernel_rfl), by kernel_rfl⟩
  · cases h)

def F_laws_toPair : List Value → Option (Value × List Bool)
  | [.agg ⟨[.int .i64 x0, .int .i64 x1, .int .i64 x2, .int .i64 x3]⟩] => some ((.agg ⟨[(.int IntKind.i64 x0), (.int IntKind.i64 x1), (.int IntKind.i64 x2), (.int IntKind.i64 x3)]⟩), [])
  | _ => none

def p_laws_toPair : PF Try.prog := PF.ofV Try.prog [p_laws_toController] hmix 13 Try.f13 Try.func13 F_laws_toPair (by
  intro vs r h; unfold F_laws_toPair at h; split at h
  · cases h; exact ⟨Nat.le_of_ble_eq_true (by kernel_rfl), by kernel_rfl⟩
  · cases h)

def laws_eqPair_0 (x0 : Int) (x1 : Int) (x2 : Int) (x3 : Int) (x4 : Int) (x5 : Int) (x6 : Int) (x7 : Int) : Bool :=
  bif !laws_eqController_0 x0 x1 x4 x5 then false else bif !laws_eqController_0 x2 x3 x6 x7 then false else true

def F_laws_eqPair : List Value → Option (Value × List Bool)
  | [.agg ⟨[.int .i64 x0, .int .i64 x1, .int .i64 x2, .int .i64 x3]⟩, .agg ⟨[.int .i64 x4, .int .i64 x5, .int .i64 x6, .int .i64 x7]⟩] => some ((.bool (laws_eqPair_0 x0 x1 x2 x3 x4 x5 x6 x7)), [])
  | _ => none

def p_laws_eqPair : PF Try.prog := PF.ofV Try.prog [p_laws_eqController] hmix 25 Try.f25 Try.func25 F_laws_eqPair (by
  intro vs r h; unfold F_laws_eqPair at h; split at h
  · cases h; exact ⟨Nat.le_of_ble_eq_true (by kernel_rfl), by kernel_rfl⟩
  · cases h)

def impl_IsPairEvent_0 (x0 : Int) (x1 : Int) (x2 : Bool) (x3 : Bool) : Bool :=
  bif x0 == 0 then x1 == 0 else bif bif bif impl_within_0 x0 1 2 then impl_within_0 x1 0 1 else false then !x2 else false then !x3 else false

def F_impl_IsPairEvent : List Value → Option (Value × List Bool)
  | [.agg ⟨[.int .i64 x0, .int .i64 x1, .bool x2, .bool x3]⟩] => some ((.bool (impl_IsPairEvent_0 x0 x1 x2 x3)), [])
  | _ => none

def p_impl_IsPairEvent : PF Try.prog := PF.ofV Try.prog [p_impl_within] hmix 43 Try.f43 Try.func43 F_impl_IsPairEvent (by
  intro vs r h; unfold F_impl_IsPairEvent at h; split at h
  · cases h; exact ⟨Nat.le_of_ble_eq_true (by kernel_rfl), by kernel_rfl⟩
  · cases h)

def spec_IsPairEvent_0 (x0 : Int) (x1 : Int) (x2 : Bool) (x3 : Bool) : Bool :=
  bif x0 == 0 then x1 == 0
else bif bif x0 == 1 then x0 == 1 else x0 == 2 then bif bif spec_l01In_0 x1 0 1 then !x2 else false then !x3 else false else false

def F_spec_IsPairEvent : List Value → Option (Value × List Bool)
  | [.agg ⟨[.int .i64 x0, .int .i64 x1, .bool x2, .bool x3]⟩] => some ((.bool (spec_IsPairEvent_0 x0 x1 x2 x3)), [])
  | _ => none

def p_spec_IsPairEvent : PF Try.prog := PF.ofV Try.prog [p_spec_l01In] hmix 44 Try.f44 Try.func44 F_spec_IsPairEvent (by
  intro vs r h; unfold F_spec_IsPairEvent at h; split at h
  · cases h; exact ⟨Nat.le_of_ble_eq_true (by kernel_rfl), by kernel_rfl⟩
  · cases h)

def spec_l31Step_0 (x0 : Int) (x1 : Int) (x2 : Int) (x3 : Int) (x4 : Int) (x5 : Int) (x7 : Bool) : Int :=
  bif x4 == 0 then spec_l31Tick_0 x0 x1 x2 x3 x7 true else bif x5 == 1 then x0 else bif x4 == 1 then 2 else 0

def spec_l31Step_1 (x0 : Int) (x1 : Int) (x2 : Int) (x4 : Int) (x5 : Int) (x7 : Bool) : Int :=
  bif x4 == 0 then spec_l31Tick_1 x0 x1 x2 x7 else bif x5 == 1 then x1 else bif x4 == 1 then 0 else 0

def spec_l31Step_2 (x0 : Int) (x1 : Int) (x2 : Int) (x3 : Int) (x4 : Int) (x5 : Int) (x6 : Bool) : Int :=
  bif x4 == 0 then spec_l31Tick_0 x2 x3 x0 x1 x6 false else bif x5 == 1 then bif x4 == 1 then 2 else 0 else x2

def spec_l31Step_3 (x0 : Int) (x2 : Int) (x3 : Int) (x4 : Int) (x5 : Int) (x6 : Bool) : Int :=
  bif x4 == 0 then spec_l31Tick_1 x2 x3 x0 x6 else bif x5 == 1 then bif x4 == 1 then 0 else 0 else x3

def spec_l31Step_4 (x0 : Int) (x2 : Int) (x4 : Int) (x5 : Int) : Bool :=
  bif x4 == 0 then true else spec_l31Up_0 (bif x5 == 1 then x2 else x0) == (x4 == 1)

def F_spec_l31Step : List Value → Option (Value × List Bool)
  | [.agg ⟨[.int .i64 x0, .int .i64 x1, .int .i64 x2, .int .i64 x3]⟩, .agg ⟨[.int .i64 x4, .int .i64 x5, .bool x6, .bool x7]⟩] => some ((.tuple ⟨[(.agg ⟨[(.int IntKind.i64 (spec_l31Step_0 x0 x1 x2 x3 x4 x5 x7)), (.int IntKind.i64 (spec_l31Step_1 x0 x1 x2 x4 x5 x7)), (.int IntKind.i64 (spec_l31Step_2 x0 x1 x2 x3 x4 x5 x6)), (.int IntKind.i64 (spec_l31Step_3 x0 x2 x3 x4 x5 x6))]⟩), (.bool (spec_l31Step_4 x0 x2 x4 x5))]⟩), [])
  | _ => none

def p_spec_l31Step : PF Try.prog := PF.ofV Try.prog [p_spec_l31Up, p_spec_l31Tick] hmix 49 Try.f49 Try.func49 F_spec_l31Step (by
  intro vs r h; unfold F_spec_l31Step at h; split at h
  · cases h; exact ⟨Nat.le_of_ble_eq_true (by kernel_rfl), by kernel_rfl⟩
  · cases h)

def impl_Pair_active_0 (x0 : Int) (x2 : Int) : Int :=
  IntKind.i64.wrap (impl_truth_0 (x0 == 1) + impl_truth_0 (x2 == 1))

def F_impl_Pair_active : List Value → Option (Value × List Bool)
  | [.agg ⟨[.int .i64 x0, .int .i64 _x1, .int .i64 x2, .int .i64 _x3]⟩] => some ((.int IntKind.i64 (impl_Pair_active_0 x0 x2)), [])
  | _ => none

def p_impl_Pair_active : PF Try.prog := PF.ofV Try.prog [p_impl_truth] hmix 52 Try.f52 Try.func52 F_impl_Pair_active (by
  intro vs r h; unfold F_impl_Pair_active at h; split at h
  · cases h; exact ⟨Nat.le_of_ble_eq_true (by kernel_rfl), by kernel_rfl⟩
  · cases h)

def impl_Pair_step_0 (x0 : Int) (x1 : Int) (x2 : Int) (x3 : Int) (x4 : Int) (x5 : Int) (x7 : Bool) : Int :=
  bif x4 == 0 then impl_Controller_tick_0 x0 x1 x2 x3 x7 true
else
  bif x5 == 1 then bif !impl_Controller_isUp_0 x2 == (x4 == 1) then 0 else bif x4 == 1 then x0 else x0
  else bif !impl_Controller_isUp_0 x0 == (x4 == 1) then 0 else bif x4 == 1 then 2 else 0

def impl_Pair_step_1 (x0 : Int) (x1 : Int) (x2 : Int) (x3 : Int) (x4 : Int) (x5 : Int) (x7 : Bool) : Int :=
  bif x4 == 0 then impl_Controller_tick_1 x0 x1 x2 x3 x7 true
else
  bif x5 == 1 then bif !impl_Controller_isUp_0 x2 == (x4 == 1) then 0 else bif x4 == 1 then x1 else x1
  else bif !impl_Controller_isUp_0 x0 == (x4 == 1) then 0 else bif x4 == 1 then 0 else 0

def impl_Pair_step_2 (x0 : Int) (x1 : Int) (x2 : Int) (x3 : Int) (x4 : Int) (x5 : Int) (x6 : Bool) : Int :=
  bif x4 == 0 then impl_Controller_tick_0 x2 x3 x0 x1 x6 false
else
  bif x5 == 1 then bif !impl_Controller_isUp_0 x2 == (x4 == 1) then 0 else bif x4 == 1 then 2 else 0
  else bif !impl_Controller_isUp_0 x0 == (x4 == 1) then 0 else bif x4 == 1 then x2 else x2

def impl_Pair_step_3 (x0 : Int) (x1 : Int) (x2 : Int) (x3 : Int) (x4 : Int) (x5 : Int) (x6 : Bool) : Int :=
  bif x4 == 0 then impl_Controller_tick_1 x2 x3 x0 x1 x6 false
else
  bif x5 == 1 then bif !impl_Controller_isUp_0 x2 == (x4 == 1) then 0 else bif x4 == 1 then 0 else 0
  else bif !impl_Controller_isUp_0 x0 == (x4 == 1) then 0 else bif x4 == 1 then x3 else x3

def impl_Pair_step_4 (x0 : Int) (x2 : Int) (x4 : Int) (x5 : Int) : Bool :=
  bif x4 == 0 then true
else
  bif x5 == 1 then bif !impl_Controller_isUp_0 x2 == (x4 == 1) then false else true
  else bif !impl_Controller_isUp_0 x0 == (x4 == 1) then false else true

def F_impl_Pair_step : List Value → Option (Value × List Bool)
  | [.agg ⟨[.int .i64 x0, .int .i64 x1, .int .i64 x2, .int .i64 x3]⟩, .agg ⟨[.int .i64 x4, .int .i64 x5, .bool x6, .bool x7]⟩] => some ((.tuple ⟨[(.agg ⟨[(.int IntKind.i64 (impl_Pair_step_0 x0 x1 x2 x3 x4 x5 x7)), (.int IntKind.i64 (impl_Pair_step_1 x0 x1 x2 x3 x4 x5 x7)), (.int IntKind.i64 (impl_Pair_step_2 x0 x1 x2 x3 x4 x5 x6)), (.int IntKind.i64 (impl_Pair_step_3 x0 x1 x2 x3 x4 x5 x6))]⟩), (.bool (impl_Pair_step_4 x0 x2 x4 x5))]⟩), [])
  | _ => none

def p_impl_Pair_step : PF Try.prog := PF.ofV Try.prog [p_impl_Controller_isUp, p_impl_Controller_tick] hmix 53 Try.f53 Try.func53 F_impl_Pair_step (by
  intro vs r h; unfold F_impl_Pair_step at h; split at h
  · cases h; exact ⟨Nat.le_of_ble_eq_true (by kernel_rfl), by kernel_rfl⟩
  · cases h)

def impl_isController_0 (x0 : Int) (x1 : Int) : Bool :=
  bif bif impl_within_0 x0 0 2 then impl_within_0 x1 0 6 else false then bif impl_Controller_isUp_0 x0 then true else x1 == 0 else false

def F_impl_isController : List Value → Option (Value × List Bool)
  | [.agg ⟨[.int .i64 x0, .int .i64 x1]⟩] => some ((.bool (impl_isController_0 x0 x1)), [])
  | _ => none

def p_impl_isController : PF Try.prog := PF.ofV Try.prog [p_impl_Controller_isUp, p_impl_within] hmix 75 Try.f75 Try.func75 F_impl_isController (by
  intro vs r h; unfold F_impl_isController at h; split at h
  · cases h; exact ⟨Nat.le_of_ble_eq_true (by kernel_rfl), by kernel_rfl⟩
  · cases h)

def spec_l31Is_0 (x0 : Int) (x1 : Int) : Bool :=
  bif bif spec_l01In_0 x0 0 2 then spec_l01In_0 x1 0 6 else false then bif x0 != 2 then true else x1 == 0 else false

def F_spec_l31Is : List Value → Option (Value × List Bool)
  | [.agg ⟨[.int .i64 x0, .int .i64 x1]⟩] => some ((.bool (spec_l31Is_0 x0 x1)), [])
  | _ => none

def p_spec_l31Is : PF Try.prog := PF.ofV Try.prog [p_spec_l01In] hmix 76 Try.f76 Try.func76 F_spec_l31Is (by
  intro vs r h; unfold F_spec_l31Is at h; split at h
  · cases h; exact ⟨Nat.le_of_ble_eq_true (by kernel_rfl), by kernel_rfl⟩
  · cases h)

def impl_runPair_1_0 (x0 : Int) (x1 : Int) (x2 : Bool) (x3 : Bool) : Bool :=
  !impl_IsPairEvent_0 x0 x1 x2 x3

def F_impl_runPair_1 : List Value → Option (Value × List Bool)
  | [.agg ⟨[.int .i64 x0, .int .i64 x1, .bool x2, .bool x3]⟩] => some ((.bool (impl_runPair_1_0 x0 x1 x2 x3)), [])
  | _ => none

def p_impl_runPair_1 : PF Try.prog := PF.ofV Try.prog [p_impl_IsPairEvent] hmix 91 Try.f91 Try.func91 F_impl_runPair_1 (by
  intro vs r h; unfold F_impl_runPair_1 at h; split at h
  · cases h; exact ⟨Nat.le_of_ble_eq_true (by kernel_rfl), by kernel_rfl⟩
  · cases h)

def impl_IsPair_0 (x0 : Int) (x1 : Int) (x2 : Int) (x3 : Int) : Bool :=
  bif impl_isController_0 x0 x1 then impl_isController_0 x2 x3 else false

def F_impl_IsPair : List Value → Option (Value × List Bool)
  | [.agg ⟨[.int .i64 x0, .int .i64 x1, .int .i64 x2, .int .i64 x3]⟩] => some ((.bool (impl_IsPair_0 x0 x1 x2 x3)), [])
  | _ => none

def p_impl_IsPair : PF Try.prog := PF.ofV Try.prog [p_impl_isController] hmix 41 Try.f41 Try.func41 F_impl_IsPair (by
  intro vs r h; unfold F_impl_IsPair at h; split at h
  · cases h; exact ⟨Nat.le_of_ble_eq_true (by kernel_rfl), by kernel_rfl⟩
  · cases h)

def spec_IsPair_0 (x0 : Int) (x1 : Int) (x2 : Int) (x3 : Int) : Bool :=
  bif spec_l31Is_0 x0 x1 then spec_l31Is_0 x2 x3 else false

def F_spec_IsPair : List Value → Option (Value × List Bool)
  | [.agg ⟨[.int .i64 x0, .int .i64 x1, .int .i64 x2, .int .i64 x3]⟩] => some ((.bool (spec_IsPair_0 x0 x1 x2 x3)), [])
  | _ => none

def p_spec_IsPair : PF Try.prog := PF.ofV Try.prog [p_spec_l31Is] hmix 42 Try.f42 Try.func42 F_spec_IsPair (by
  intro vs r h; unfold F_spec_IsPair at h; split at h
  · cases h; exact ⟨Nat.le_of_ble_eq_true (by kernel_rfl), by kernel_rfl⟩
  · cases h)

def impl_ActiveCount_0 (x0 : Int) (x1 : Int) (x2 : Int) (x3 : Int) : Int :=
  bif !impl_IsPair_0 x0 x1 x2 x3 then 0 else impl_Pair_active_0 x0 x2

def impl_ActiveCount_1 (x0 : Int) (x1 : Int) (x2 : Int) (x3 : Int) : Int :=
  bif !impl_IsPair_0 x0 x1 x2 x3 then 1 else 0

def F_impl_ActiveCount : List Value → Option (Value × List Bool)
  | [.agg ⟨[.int .i64 x0, .int .i64 x1, .int .i64 x2, .int .i64 x3]⟩] => some ((.tuple ⟨[(.int IntKind.i64 (impl_ActiveCount_0 x0 x1 x2 x3)), (.int IntKind.i64 (impl_ActiveCount_1 x0 x1 x2 x3))]⟩), [])
  | _ => none

def p_impl_ActiveCount : PF Try.prog := PF.ofV Try.prog [p_impl_IsPair, p_impl_Pair_active] hmix 29 Try.f29 Try.func29 F_impl_ActiveCount (by
  intro vs r h; unfold F_impl_ActiveCount at h; split at h
  · cases h; exact ⟨Nat.le_of_ble_eq_true (by kernel_rfl), by kernel_rfl⟩
  · cases h)

end Go.SX
