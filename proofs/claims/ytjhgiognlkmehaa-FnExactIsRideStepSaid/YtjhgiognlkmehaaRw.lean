/- What functions of the program come to, row by row (made by a program of the workplace). -/
import Derived.Test.YtjhgiognlkmehaaTXh
import Derived.Test.YtjhgiognlkmehaaProg
import Derived.Test.YtjhgiognlkmehaaNu
namespace Go.SX
open Go.Proofs
set_option maxRecDepth 100000

def laws_FnExactIsRide_a0 (x3 : List Int) (x4 : List (Int × Int × Int)) (x5 : List (List Int)) (x6 : List (Int × Int × Int)) (x7 : List (Int × Int)) (x8 : List (Int × Int)) : Bool :=
  ltI (laws_szRide_0 (1048576 : Int) x3 x4 x5 x6 x7 x8) (0 : Int)

def laws_FnExactIsRide_a1 (x0 : Int) (x1 : Int) (x2 : Int) (x3 : List Int) (x4 : List (Int × Int × Int)) (x5 : List (List Int)) (x6 : List (Int × Int × Int)) (x7 : List (Int × Int)) (x8 : List (Int × Int)) : Bool :=
  !okRide x0 x3 x4 x5 x6 x1 x7 x8 x2 == okRide x0 x3 x4 x5 x6 x1 x7 x8 x2

def laws_FnExactIsRide_a2 (x3 : List Int) (x4 : List (Int × Int × Int)) (x5 : List (List Int)) (x6 : List (Int × Int × Int)) (x7 : List (Int × Int)) (x8 : List (Int × Int)) : Bool :=
  laws_FnExactIsRide_a0 x3 x4 x5 x6 x7 x8 || laws_toRide_0 x3 x4 x5 x6 x7 x8

def laws_FnExactIsRide_a3 (x3 : List Int) (x4 : List (Int × Int × Int)) (x5 : List (List Int)) (x6 : List (Int × Int × Int)) (x7 : List (Int × Int)) (x8 : List (Int × Int)) : Bool :=
  laws_FnExactIsRide_a0 x3 x4 x5 x6 x7 x8 || rideN (9223372036854775807 : Nat) x3 x4 x5 x6 x7 x8

def laws_FnExactIsRide_0 (x0 : Int) (x1 : Int) (x2 : Int) (x3 : List Int) (x4 : List (Int × Int × Int)) (x5 : List (List Int)) (x6 : List (Int × Int × Int)) (x7 : List (Int × Int)) (x8 : List (Int × Int)) : Bool :=
  bif laws_FnExactIsRide_a0 x3 x4 x5 x6 x7 x8 then true
  else
  bif laws_FnExactIsRide_a1 x0 x1 x2 x3 x4 x5 x6 x7 x8 then false
  else bif !laws_eqRide_0 x0 x1 x2 x0 x1 x2 x3 x4 x5 x6 x7 x8 x3 x4 x5 x6 x7 x8 then false else true

def laws_FnExactIsRide_1 (x0 : Int) (x1 : Int) (x2 : Int) (x3 : List Int) (x4 : List (Int × Int × Int)) (x5 : List (List Int)) (x6 : List (Int × Int × Int)) (x7 : List (Int × Int)) (x8 : List (Int × Int)) : Bool :=
  allT
  [laws_szRide_1 (1048576 : Int) x3 x4 x5, laws_FnExactIsRide_a2 x3 x4 x5 x6 x7 x8, laws_FnExactIsRide_a3 x3 x4 x5 x6 x7 x8,
    laws_FnExactIsRide_a2 x3 x4 x5 x6 x7 x8, laws_FnExactIsRide_a3 x3 x4 x5 x6 x7 x8,
    laws_FnExactIsRide_a0 x3 x4 x5 x6 x7 x8 || (laws_FnExactIsRide_a1 x0 x1 x2 x3 x4 x5 x6 x7 x8 || laws_toRide_0 x3 x4 x5 x6 x7 x8),
    laws_FnExactIsRide_a0 x3 x4 x5 x6 x7 x8 ||
      (laws_FnExactIsRide_a1 x0 x1 x2 x3 x4 x5 x6 x7 x8 || laws_eqRide_1 x0 x1 x0 x1 x3 x4 x5 x6 x7 x8 x3 x4 x5 x6 x7)]

def F_laws_FnExactIsRide : List SV → List Entry → Option Out
  | [.one ⟨true, [.val (.int .i64 x0), .ref 0, .ref 1, .ref 2, .ref 3, .val (.int .i64 x1), .ref 4, .ref 5, .val (.int .i64 x2)]⟩], [.row false 2 (.int .i64) x3, .row false 105 (.pair (.int .i64) (.pair (.int .i64) (.int .i64))) x4, .row false 22 (.sl 2 (.int .i64)) x5, .row false 107 (.pair (.int .i64) (.pair (.int .i64) (.int .i64))) x6, .row false 109 (.pair (.int .i64) (.int .i64)) x7, .row false 111 (.pair (.int .i64) (.int .i64)) x8] => some ⟨(.one ⟨false, [(.val (.bool (laws_FnExactIsRide_0 x0 x1 x2 x3 x4 x5 x6 x7 x8)))]⟩), [(.row false 2 (CTy.int IntKind.i64) x3), (.row false 105 (CTy.pair (CTy.int IntKind.i64) (CTy.pair (CTy.int IntKind.i64) (CTy.int IntKind.i64))) x4), (.row false 22 (CTy.sl (2 : TypeId) (CTy.int IntKind.i64)) x5), (.row false 107 (CTy.pair (CTy.int IntKind.i64) (CTy.pair (CTy.int IntKind.i64) (CTy.int IntKind.i64))) x6), (.row false 109 (CTy.pair (CTy.int IntKind.i64) (CTy.int IntKind.i64)) x7), (.row false 111 (CTy.pair (CTy.int IntKind.i64) (CTy.int IntKind.i64)) x8)], [], [(laws_FnExactIsRide_1 x0 x1 x2 x3 x4 x5 x6 x7 x8)]⟩
  | _, _ => none

def p_laws_FnExactIsRide : PF Try.prog := PF.ofG Try.prog [p_laws_eqRide, PF.lend p_laws_eqRide, PF.fz p_laws_eqRide, p_laws_szRide, PF.lend p_laws_szRide, PF.fz p_laws_szRide, n_spec_IsRide, PF.lend n_spec_IsRide, PF.fz n_spec_IsRide, p_laws_toRide, PF.lend p_laws_toRide, PF.fz p_laws_toRide, n_impl_IsRide, PF.lend n_impl_IsRide, PF.fz n_impl_IsRide] [] hmix 3 Try.f3 Try.func3 (fun c _ => LOk.nil c) F_laws_FnExactIsRide (by
  intro vs es r h; unfold F_laws_FnExactIsRide at h; split at h
  · cases h; kernel_rfl
  · cases h)

def laws_FnExactIsTolerant_a0 (x3 : List Int) (x4 : List (Int × Int × Int)) (x5 : List (List Int)) (x6 : List (Int × Int × Int)) (x7 : List (Int × Int)) (x8 : List (Int × Int)) : Bool :=
  ltI (laws_szRide_0 (1048576 : Int) x3 x4 x5 x6 x7 x8) (0 : Int)

def laws_FnExactIsTolerant_a1 (x0 : Int) (x1 : Int) (x2 : Int) (x3 : List Int) (x4 : List (Int × Int × Int)) (x5 : List (List Int)) (x6 : List (Int × Int × Int)) (x7 : List (Int × Int)) (x8 : List (Int × Int)) : Bool :=
  !tolRide x0 x3 x4 x5 x6 x1 x7 x8 x2 == tolRide x0 x3 x4 x5 x6 x1 x7 x8 x2

def laws_FnExactIsTolerant_a2 (x3 : List Int) (x4 : List (Int × Int × Int)) (x5 : List (List Int)) (x6 : List (Int × Int × Int)) (x7 : List (Int × Int)) (x8 : List (Int × Int)) : Bool :=
  laws_FnExactIsTolerant_a0 x3 x4 x5 x6 x7 x8 || laws_toRide_0 x3 x4 x5 x6 x7 x8

def laws_FnExactIsTolerant_a3 (x3 : List Int) (x4 : List (Int × Int × Int)) (x5 : List (List Int)) (x6 : List (Int × Int × Int)) (x7 : List (Int × Int)) (x8 : List (Int × Int)) : Bool :=
  laws_FnExactIsTolerant_a0 x3 x4 x5 x6 x7 x8 || rideN (9223372036854775807 : Nat) x3 x4 x5 x6 x7 x8

def laws_FnExactIsTolerant_0 (x0 : Int) (x1 : Int) (x2 : Int) (x3 : List Int) (x4 : List (Int × Int × Int)) (x5 : List (List Int)) (x6 : List (Int × Int × Int)) (x7 : List (Int × Int)) (x8 : List (Int × Int)) : Bool :=
  bif laws_FnExactIsTolerant_a0 x3 x4 x5 x6 x7 x8 then true
  else
  bif laws_FnExactIsTolerant_a1 x0 x1 x2 x3 x4 x5 x6 x7 x8 then false
  else bif !laws_eqRide_0 x0 x1 x2 x0 x1 x2 x3 x4 x5 x6 x7 x8 x3 x4 x5 x6 x7 x8 then false else true

def laws_FnExactIsTolerant_1 (x0 : Int) (x1 : Int) (x2 : Int) (x3 : List Int) (x4 : List (Int × Int × Int)) (x5 : List (List Int)) (x6 : List (Int × Int × Int)) (x7 : List (Int × Int)) (x8 : List (Int × Int)) : Bool :=
  allT
  [laws_szRide_1 (1048576 : Int) x3 x4 x5, laws_FnExactIsTolerant_a2 x3 x4 x5 x6 x7 x8, laws_FnExactIsTolerant_a3 x3 x4 x5 x6 x7 x8,
    laws_FnExactIsTolerant_a2 x3 x4 x5 x6 x7 x8, laws_FnExactIsTolerant_a3 x3 x4 x5 x6 x7 x8,
    laws_FnExactIsTolerant_a0 x3 x4 x5 x6 x7 x8 || (laws_FnExactIsTolerant_a1 x0 x1 x2 x3 x4 x5 x6 x7 x8 || laws_toRide_0 x3 x4 x5 x6 x7 x8),
    laws_FnExactIsTolerant_a0 x3 x4 x5 x6 x7 x8 ||
      (laws_FnExactIsTolerant_a1 x0 x1 x2 x3 x4 x5 x6 x7 x8 || laws_eqRide_1 x0 x1 x0 x1 x3 x4 x5 x6 x7 x8 x3 x4 x5 x6 x7)]

def F_laws_FnExactIsTolerant : List SV → List Entry → Option Out
  | [.one ⟨true, [.val (.int .i64 x0), .ref 0, .ref 1, .ref 2, .ref 3, .val (.int .i64 x1), .ref 4, .ref 5, .val (.int .i64 x2)]⟩], [.row false 2 (.int .i64) x3, .row false 105 (.pair (.int .i64) (.pair (.int .i64) (.int .i64))) x4, .row false 22 (.sl 2 (.int .i64)) x5, .row false 107 (.pair (.int .i64) (.pair (.int .i64) (.int .i64))) x6, .row false 109 (.pair (.int .i64) (.int .i64)) x7, .row false 111 (.pair (.int .i64) (.int .i64)) x8] => some ⟨(.one ⟨false, [(.val (.bool (laws_FnExactIsTolerant_0 x0 x1 x2 x3 x4 x5 x6 x7 x8)))]⟩), [(.row false 2 (CTy.int IntKind.i64) x3), (.row false 105 (CTy.pair (CTy.int IntKind.i64) (CTy.pair (CTy.int IntKind.i64) (CTy.int IntKind.i64))) x4), (.row false 22 (CTy.sl (2 : TypeId) (CTy.int IntKind.i64)) x5), (.row false 107 (CTy.pair (CTy.int IntKind.i64) (CTy.pair (CTy.int IntKind.i64) (CTy.int IntKind.i64))) x6), (.row false 109 (CTy.pair (CTy.int IntKind.i64) (CTy.int IntKind.i64)) x7), (.row false 111 (CTy.pair (CTy.int IntKind.i64) (CTy.int IntKind.i64)) x8)], [], [(laws_FnExactIsTolerant_1 x0 x1 x2 x3 x4 x5 x6 x7 x8)]⟩
  | _, _ => none

def p_laws_FnExactIsTolerant : PF Try.prog := PF.ofG Try.prog [p_laws_eqRide, PF.lend p_laws_eqRide, PF.fz p_laws_eqRide, n_spec_IsTolerant, PF.lend n_spec_IsTolerant, PF.fz n_spec_IsTolerant, n_impl_IsTolerant, PF.lend n_impl_IsTolerant, PF.fz n_impl_IsTolerant, p_laws_szRide, PF.lend p_laws_szRide, PF.fz p_laws_szRide, p_laws_toRide, PF.lend p_laws_toRide, PF.fz p_laws_toRide] [] hmix 4 Try.f4 Try.func4 (fun c _ => LOk.nil c) F_laws_FnExactIsTolerant (by
  intro vs es r h; unfold F_laws_FnExactIsTolerant at h; split at h
  · cases h; kernel_rfl
  · cases h)

def laws_FnExactIsRideStep_a0 (x10 : List Int) (x11 : List (Int × Int × Int)) (x12 : List (List Int)) (x13 : List (Int × Int × Int)) (x14 : List (Int × Int)) (x15 : List (Int × Int)) : Bool :=
  ltI (laws_szRide_0 (1048576 : Int) x10 x11 x12 x13 x14 x15) (0 : Int)

def laws_FnExactIsRideStep_a1 (x0 : Int) (x1 : Int) (x2 : Int) (x3 : Int) (x4 : Int) (x5 : Int) (x6 : Int) (x7 : Int) (x8 : Int) (x9 : Bool) (x10 : List Int) (x11 : List (Int × Int × Int)) (x12 : List (List Int)) (x13 : List (Int × Int × Int)) (x14 : List (Int × Int)) (x15 : List (Int × Int)) : Bool :=
  !impl_IsRideStep_0 x0 x1 x2 x3 x4 x5 x6 x7 x8 x9 x10 x11 x12 x13 x14 x15 == spec_IsRideStep_0 x0 x1 x2 x3 x4 x5 x6 x7 x8 x9 x10 x11 x12 x13 x14 x15

def laws_FnExactIsRideStep_a2 (x10 : List Int) (x11 : List (Int × Int × Int)) (x12 : List (List Int)) (x13 : List (Int × Int × Int)) (x14 : List (Int × Int)) (x15 : List (Int × Int)) : Bool :=
  laws_FnExactIsRideStep_a0 x10 x11 x12 x13 x14 x15 || laws_toRide_0 x10 x11 x12 x13 x14 x15

def laws_FnExactIsRideStep_0 (x0 : Int) (x1 : Int) (x2 : Int) (x3 : Int) (x4 : Int) (x5 : Int) (x6 : Int) (x7 : Int) (x8 : Int) (x9 : Bool) (x10 : List Int) (x11 : List (Int × Int × Int)) (x12 : List (List Int)) (x13 : List (Int × Int × Int)) (x14 : List (Int × Int)) (x15 : List (Int × Int)) : Bool :=
  bif laws_FnExactIsRideStep_a0 x10 x11 x12 x13 x14 x15 then true
  else
  bif laws_FnExactIsRideStep_a1 x0 x1 x2 x3 x4 x5 x6 x7 x8 x9 x10 x11 x12 x13 x14 x15 then false
  else bif !laws_eqRide_0 x0 x1 x2 x0 x1 x2 x10 x11 x12 x13 x14 x15 x10 x11 x12 x13 x14 x15 then false else true

def laws_FnExactIsRideStep_1 (x0 : Int) (x1 : Int) (x2 : Int) (x3 : Int) (x4 : Int) (x5 : Int) (x6 : Int) (x7 : Int) (x8 : Int) (x9 : Bool) (x10 : List Int) (x11 : List (Int × Int × Int)) (x12 : List (List Int)) (x13 : List (Int × Int × Int)) (x14 : List (Int × Int)) (x15 : List (Int × Int)) : Bool :=
  allT
  [laws_szRide_1 (1048576 : Int) x10 x11 x12, laws_FnExactIsRideStep_a2 x10 x11 x12 x13 x14 x15,
    laws_FnExactIsRideStep_a0 x10 x11 x12 x13 x14 x15 || spec_IsRideStep_1 x0 x1 x2 x3 x4 x10 x11 x12 x13 x14 x15,
    laws_FnExactIsRideStep_a2 x10 x11 x12 x13 x14 x15,
    laws_FnExactIsRideStep_a0 x10 x11 x12 x13 x14 x15 || impl_IsRideStep_1 x0 x1 x2 x3 x4 x10 x11 x12 x13 x14 x15,
    laws_FnExactIsRideStep_a0 x10 x11 x12 x13 x14 x15 ||
      (laws_FnExactIsRideStep_a1 x0 x1 x2 x3 x4 x5 x6 x7 x8 x9 x10 x11 x12 x13 x14 x15 || laws_toRide_0 x10 x11 x12 x13 x14 x15),
    laws_FnExactIsRideStep_a0 x10 x11 x12 x13 x14 x15 ||
      (laws_FnExactIsRideStep_a1 x0 x1 x2 x3 x4 x5 x6 x7 x8 x9 x10 x11 x12 x13 x14 x15 ||
        laws_eqRide_1 x0 x1 x0 x1 x10 x11 x12 x13 x14 x15 x10 x11 x12 x13 x14)]

def F_laws_FnExactIsRideStep : List SV → List Entry → Option Out
  | [.one ⟨true, [.val (.int .i64 x0), .ref 0, .ref 1, .ref 2, .ref 3, .val (.int .i64 x1), .ref 4, .ref 5, .val (.int .i64 x2)]⟩, .one ⟨true, [.val (.int .i64 x3), .val (.int .i64 x4), .val (.int .i64 x5), .val (.int .i64 x6), .val (.int .i64 x7), .val (.int .i64 x8), .val (.bool x9)]⟩], [.row false 2 (.int .i64) x10, .row false 105 (.pair (.int .i64) (.pair (.int .i64) (.int .i64))) x11, .row false 22 (.sl 2 (.int .i64)) x12, .row false 107 (.pair (.int .i64) (.pair (.int .i64) (.int .i64))) x13, .row false 109 (.pair (.int .i64) (.int .i64)) x14, .row false 111 (.pair (.int .i64) (.int .i64)) x15] => some ⟨(.one ⟨false, [(.val (.bool (laws_FnExactIsRideStep_0 x0 x1 x2 x3 x4 x5 x6 x7 x8 x9 x10 x11 x12 x13 x14 x15)))]⟩), [(.row false 2 (CTy.int IntKind.i64) x10), (.row false 105 (CTy.pair (CTy.int IntKind.i64) (CTy.pair (CTy.int IntKind.i64) (CTy.int IntKind.i64))) x11), (.row false 22 (CTy.sl (2 : TypeId) (CTy.int IntKind.i64)) x12), (.row false 107 (CTy.pair (CTy.int IntKind.i64) (CTy.pair (CTy.int IntKind.i64) (CTy.int IntKind.i64))) x13), (.row false 109 (CTy.pair (CTy.int IntKind.i64) (CTy.int IntKind.i64)) x14), (.row false 111 (CTy.pair (CTy.int IntKind.i64) (CTy.int IntKind.i64)) x15)], [], [(laws_FnExactIsRideStep_1 x0 x1 x2 x3 x4 x5 x6 x7 x8 x9 x10 x11 x12 x13 x14 x15)]⟩
  | _, _ => none

def p_laws_FnExactIsRideStep : PF Try.prog := PF.ofG Try.prog [p_laws_eqRide, PF.lend p_laws_eqRide, PF.fz p_laws_eqRide, p_spec_IsRideStep, PF.lend p_spec_IsRideStep, PF.fz p_spec_IsRideStep, p_laws_toRideStep, p_impl_IsRideStep, PF.lend p_impl_IsRideStep, PF.fz p_impl_IsRideStep, p_laws_szRide, PF.lend p_laws_szRide, PF.fz p_laws_szRide, p_laws_toRide, PF.lend p_laws_toRide, PF.fz p_laws_toRide] [] hmix 5 Try.f5 Try.func5 (fun c _ => LOk.nil c) F_laws_FnExactIsRideStep (by
  intro vs es r h; unfold F_laws_FnExactIsRideStep at h; split at h
  · cases h; kernel_rfl
  · cases h)

end Go.SX
