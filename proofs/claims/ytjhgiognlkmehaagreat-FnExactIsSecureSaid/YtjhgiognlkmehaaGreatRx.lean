/- What functions of the program come to, row by row (made by a program of the workplace). -/
import Derived.Test.YtjhgiognlkmehaaGreatTXh
import Derived.Test.YtjhgiognlkmehaaGreatProg
import Derived.Test.YtjhgiognlkmehaaGreatNw
namespace Go.SX
open Go.Proofs
set_option maxRecDepth 100000

def laws_FnExactIsSecure_a0 (x3 : List Int) (x4 : List (Int × Int × Int)) (x5 : List (List Int)) (x6 : List (Int × Int × Int)) (x7 : List (Int × Int)) (x8 : List (Int × Int)) : Bool :=
  ltI (laws_szRide_0 (1048576 : Int) x3 x4 x5 x6 x7 x8) (0 : Int)

def laws_FnExactIsSecure_a1 (x0 : Int) (x1 : Int) (x2 : Int) (x3 : List Int) (x4 : List (Int × Int × Int)) (x5 : List (List Int)) (x6 : List (Int × Int × Int)) (x7 : List (Int × Int)) (x8 : List (Int × Int)) : Bool :=
  !secRide x0 x3 x4 x5 x6 x1 x7 x8 x2 == secRide x0 x3 x4 x5 x6 x1 x7 x8 x2

def laws_FnExactIsSecure_a2 (x3 : List Int) (x4 : List (Int × Int × Int)) (x5 : List (List Int)) (x6 : List (Int × Int × Int)) (x7 : List (Int × Int)) (x8 : List (Int × Int)) : Bool :=
  laws_FnExactIsSecure_a0 x3 x4 x5 x6 x7 x8 || laws_toRide_0 x3 x4 x5 x6 x7 x8

def laws_FnExactIsSecure_a3 (x3 : List Int) (x4 : List (Int × Int × Int)) (x5 : List (List Int)) (x6 : List (Int × Int × Int)) (x7 : List (Int × Int)) (x8 : List (Int × Int)) : Bool :=
  laws_FnExactIsSecure_a0 x3 x4 x5 x6 x7 x8 || rideN (9223372036854775807 : Nat) x3 x4 x5 x6 x7 x8

def laws_FnExactIsSecure_0 (x0 : Int) (x1 : Int) (x2 : Int) (x3 : List Int) (x4 : List (Int × Int × Int)) (x5 : List (List Int)) (x6 : List (Int × Int × Int)) (x7 : List (Int × Int)) (x8 : List (Int × Int)) : Bool :=
  bif laws_FnExactIsSecure_a0 x3 x4 x5 x6 x7 x8 then true
  else
  bif laws_FnExactIsSecure_a1 x0 x1 x2 x3 x4 x5 x6 x7 x8 then false
  else bif !laws_eqRide_0 x0 x1 x2 x0 x1 x2 x3 x4 x5 x6 x7 x8 x3 x4 x5 x6 x7 x8 then false else true

def laws_FnExactIsSecure_1 (x0 : Int) (x1 : Int) (x2 : Int) (x3 : List Int) (x4 : List (Int × Int × Int)) (x5 : List (List Int)) (x6 : List (Int × Int × Int)) (x7 : List (Int × Int)) (x8 : List (Int × Int)) : Bool :=
  allT
  [laws_szRide_1 (1048576 : Int) x3 x4 x5, laws_FnExactIsSecure_a2 x3 x4 x5 x6 x7 x8, laws_FnExactIsSecure_a3 x3 x4 x5 x6 x7 x8,
    laws_FnExactIsSecure_a2 x3 x4 x5 x6 x7 x8, laws_FnExactIsSecure_a3 x3 x4 x5 x6 x7 x8,
    laws_FnExactIsSecure_a0 x3 x4 x5 x6 x7 x8 || (laws_FnExactIsSecure_a1 x0 x1 x2 x3 x4 x5 x6 x7 x8 || laws_toRide_0 x3 x4 x5 x6 x7 x8),
    laws_FnExactIsSecure_a0 x3 x4 x5 x6 x7 x8 ||
      (laws_FnExactIsSecure_a1 x0 x1 x2 x3 x4 x5 x6 x7 x8 || laws_eqRide_1 x0 x1 x0 x1 x3 x4 x5 x6 x7 x8 x3 x4 x5 x6 x7)]

def F_laws_FnExactIsSecure : List SV → List Entry → Option Out
  | [.one ⟨true, [.val (.int .i64 x0), .ref 0, .ref 1, .ref 2, .ref 3, .val (.int .i64 x1), .ref 4, .ref 5, .val (.int .i64 x2)]⟩], [.row false 2 (.int .i64) x3, .row false 80 (.pair (.int .i64) (.pair (.int .i64) (.int .i64))) x4, .row false 22 (.sl 2 (.int .i64)) x5, .row false 84 (.pair (.int .i64) (.pair (.int .i64) (.int .i64))) x6, .row false 88 (.pair (.int .i64) (.int .i64)) x7, .row false 92 (.pair (.int .i64) (.int .i64)) x8] => some ⟨(.one ⟨false, [(.val (.bool (laws_FnExactIsSecure_0 x0 x1 x2 x3 x4 x5 x6 x7 x8)))]⟩), [(.row false 2 (CTy.int IntKind.i64) x3), (.row false 80 (CTy.pair (CTy.int IntKind.i64) (CTy.pair (CTy.int IntKind.i64) (CTy.int IntKind.i64))) x4), (.row false 22 (CTy.sl (2 : TypeId) (CTy.int IntKind.i64)) x5), (.row false 84 (CTy.pair (CTy.int IntKind.i64) (CTy.pair (CTy.int IntKind.i64) (CTy.int IntKind.i64))) x6), (.row false 88 (CTy.pair (CTy.int IntKind.i64) (CTy.int IntKind.i64)) x7), (.row false 92 (CTy.pair (CTy.int IntKind.i64) (CTy.int IntKind.i64)) x8)], [], [(laws_FnExactIsSecure_1 x0 x1 x2 x3 x4 x5 x6 x7 x8)]⟩
  | _, _ => none

def p_laws_FnExactIsSecure : PF Tryz.prog := PF.ofG Tryz.prog [p_laws_szRide, PF.lend p_laws_szRide, PF.fz p_laws_szRide, n_spec_IsSecure, PF.lend n_spec_IsSecure, PF.fz n_spec_IsSecure, p_laws_toRide, PF.lend p_laws_toRide, PF.fz p_laws_toRide, n_impl_IsSecure, PF.lend n_impl_IsSecure, PF.fz n_impl_IsSecure, p_laws_eqRide, PF.lend p_laws_eqRide, PF.fz p_laws_eqRide] [] hmix 3 Tryz.f3 Tryz.func3 (fun c _ => LOk.nil c) F_laws_FnExactIsSecure (by
  intro vs es r h; unfold F_laws_FnExactIsSecure at h; split at h
  · cases h; kernel_rfl
  · cases h)

end Go.SX
