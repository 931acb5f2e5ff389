/- What functions of the program come to, row by row (made by a program of the workplace). -/
import Derived.Test.YtjncnnpdaeociaaTXh
import Derived.Test.YtjncnnpdaeociaaProg
import Derived.Test.YtjncnnpdaeociaaNn
namespace Go.SX
open Go.Proofs
set_option maxRecDepth 100000

def laws_FnExactFirstCollision_a0 (x1 : List Int) : Bool :=
  ltI (szV (1048576 : Int) x1) (0 : Int)

def laws_FnExactFirstCollision_a1 (x1 : List Int) (x2 : List (Int × Int × Int)) : Bool :=
  ltI (laws_szSensorFaultS_0 (szV (1048576 : Int) x1) x2) (0 : Int)

def laws_FnExactFirstCollision_a2 (x0 : Int) (x1 : List Int) (x2 : List (Int × Int × Int)) (x3 : List Int) : Bool :=
  bif ctF x0 x1 x2 x3 != spec_FirstCollision_0 x0 x1 x2 x3 then true else ctCode x0 x1 x2 x3 != spec_FirstCollision_1 x0 x1 x2 x3

def laws_FnExactFirstCollision_a3 (x1 : List Int) (x2 : List (Int × Int × Int)) (x3 : List Int) : Bool :=
  ltI (1048576 : Int) (↑(List.length x3) : Int) ||
  (laws_FnExactFirstCollision_a0 x1 || (laws_FnExactFirstCollision_a1 x1 x2 || leN (List.length x1) (1048576 : Nat)))

def laws_FnExactFirstCollision_a4 (x2 : List (Int × Int × Int)) : Bool :=
  leN (List.length x2) (1048576 : Nat)

def laws_FnExactFirstCollision_a5 (x1 : List Int) (x2 : List (Int × Int × Int)) (x3 : List Int) : Bool :=
  ltI (1048576 : Int) (↑(List.length x3) : Int) ||
  (laws_FnExactFirstCollision_a0 x1 || (laws_FnExactFirstCollision_a1 x1 x2 || laws_FnExactFirstCollision_a4 x2))

def laws_FnExactFirstCollision_a6 (x1 : List Int) (x2 : List (Int × Int × Int)) (x3 : List Int) : Bool :=
  ltI (1048576 : Int) (↑(List.length x3) : Int) ||
  (laws_FnExactFirstCollision_a0 x1 || (laws_FnExactFirstCollision_a1 x1 x2 || leN (List.length x3) (1048576 : Nat)))

def laws_FnExactFirstCollision_a7 (x2 : List (Int × Int × Int)) : Bool :=
  leN (List.length x2) (9223372036854775807 : Nat)

def laws_FnExactFirstCollision_0 (x0 : Int) (x1 : List Int) (x2 : List (Int × Int × Int)) (x3 : List Int) : Bool :=
  bif ltI (1048576 : Int) (↑(List.length x3) : Int) then true
  else
  bif laws_FnExactFirstCollision_a0 x1 then true
  else
    bif laws_FnExactFirstCollision_a1 x1 x2 then true
    else
      bif laws_FnExactFirstCollision_a2 x0 x1 x2 x3 then false
      else bif !eqT x0 x0 x1 x1 then false else bif !eqFls x2 x2 then false else bif !eqL x3 x3 then false else true

def laws_FnExactFirstCollision_1 (x0 : Int) (x1 : List Int) (x2 : List (Int × Int × Int)) (x3 : List Int) : Bool :=
  allT
  [ltI (1048576 : Int) (↑(List.length x3) : Int) ||
      leN (List.length x1) (9223372036854775807 : Nat) && (leI (-1 : Int) (1048576 : Int) && leI (1048576 : Int) (1048576 : Int)),
    laws_FnExactFirstCollision_a3 x1 x2 x3, laws_FnExactFirstCollision_a5 x1 x2 x3, laws_FnExactFirstCollision_a6 x1 x2 x3,
    ltI (1048576 : Int) (↑(List.length x3) : Int) ||
      (laws_FnExactFirstCollision_a0 x1 || (laws_FnExactFirstCollision_a1 x1 x2 || spec_FirstCollision_2 x2)),
    laws_FnExactFirstCollision_a3 x1 x2 x3, laws_FnExactFirstCollision_a5 x1 x2 x3, laws_FnExactFirstCollision_a6 x1 x2 x3,
    ltI (1048576 : Int) (↑(List.length x3) : Int) ||
      (laws_FnExactFirstCollision_a0 x1 || (laws_FnExactFirstCollision_a1 x1 x2 || laws_FnExactFirstCollision_a7 x2)),
    ltI (1048576 : Int) (↑(List.length x3) : Int) ||
      (laws_FnExactFirstCollision_a0 x1 ||
        (laws_FnExactFirstCollision_a1 x1 x2 || (laws_FnExactFirstCollision_a2 x0 x1 x2 x3 || leN (List.length x1) (1048576 : Nat)))),
    ltI (1048576 : Int) (↑(List.length x3) : Int) ||
      (laws_FnExactFirstCollision_a0 x1 ||
        (laws_FnExactFirstCollision_a1 x1 x2 || (laws_FnExactFirstCollision_a2 x0 x1 x2 x3 || leN (List.length x1) (9223372036854775807 : Nat)))),
    ltI (1048576 : Int) (↑(List.length x3) : Int) ||
      (laws_FnExactFirstCollision_a0 x1 ||
        (laws_FnExactFirstCollision_a1 x1 x2 ||
          (laws_FnExactFirstCollision_a2 x0 x1 x2 x3 || (!eqT x0 x0 x1 x1 || laws_FnExactFirstCollision_a4 x2)))),
    ltI (1048576 : Int) (↑(List.length x3) : Int) ||
      (laws_FnExactFirstCollision_a0 x1 ||
        (laws_FnExactFirstCollision_a1 x1 x2 ||
          (laws_FnExactFirstCollision_a2 x0 x1 x2 x3 || (!eqT x0 x0 x1 x1 || laws_FnExactFirstCollision_a7 x2)))),
    ltI (1048576 : Int) (↑(List.length x3) : Int) ||
      (laws_FnExactFirstCollision_a0 x1 ||
        (laws_FnExactFirstCollision_a1 x1 x2 ||
          (laws_FnExactFirstCollision_a2 x0 x1 x2 x3 || (!eqT x0 x0 x1 x1 || (!eqFls x2 x2 || leN (List.length x3) (1048576 : Nat)))))),
    ltI (1048576 : Int) (↑(List.length x3) : Int) ||
      (laws_FnExactFirstCollision_a0 x1 ||
        (laws_FnExactFirstCollision_a1 x1 x2 ||
          (laws_FnExactFirstCollision_a2 x0 x1 x2 x3 || (!eqT x0 x0 x1 x1 || (!eqFls x2 x2 || leN (List.length x3) (9223372036854775807 : Nat))))))]

def F_laws_FnExactFirstCollision : List SV → List Entry → Option Out
  | [.one ⟨true, [.val (.int .i64 x0), .ref 0]⟩, .one ⟨false, [.ref 1]⟩, .one ⟨false, [.ref 2]⟩], [.row false 2 (.int .i64) x1, .row false 120 (.pair (.int .i64) (.pair (.int .i64) (.int .i64))) x2, .row false 2 (.int .i64) x3] => some ⟨(.one ⟨false, [(.val (.bool (laws_FnExactFirstCollision_0 x0 x1 x2 x3)))]⟩), [(.row false 2 (CTy.int IntKind.i64) x1), (.row false 120 (CTy.pair (CTy.int IntKind.i64) (CTy.pair (CTy.int IntKind.i64) (CTy.int IntKind.i64))) x2), (.row false 2 (CTy.int IntKind.i64) x3)], [], [(laws_FnExactFirstCollision_1 x0 x1 x2 x3)]⟩
  | _, _ => none

def p_laws_FnExactFirstCollision : PF Try.prog := PF.ofG Try.prog [n_laws_szTraffic, PF.lend n_laws_szTraffic, PF.fz n_laws_szTraffic, n_laws_toTraffic, PF.lend n_laws_toTraffic, PF.fz n_laws_toTraffic, n_laws_eqTraffic, PF.lend n_laws_eqTraffic, PF.fz n_laws_eqTraffic, n_laws_eqInt64S, PF.lend n_laws_eqInt64S, PF.fz n_laws_eqInt64S, n_laws_toInt64S, PF.lend n_laws_toInt64S, PF.fz n_laws_toInt64S, p_laws_szSensorFaultS, PF.lend p_laws_szSensorFaultS, PF.fz p_laws_szSensorFaultS, p_spec_FirstCollision, PF.lend p_spec_FirstCollision, PF.fz p_spec_FirstCollision, n_laws_toSensorFaultS, PF.lend n_laws_toSensorFaultS, PF.fz n_laws_toSensorFaultS, n_impl_FirstCollision, PF.lend n_impl_FirstCollision, PF.fz n_impl_FirstCollision, n_laws_eqSensorFaultS, PF.lend n_laws_eqSensorFaultS, PF.fz n_laws_eqSensorFaultS] [] hmix 9 Try.f9 Try.func9 (fun c _ => LOk.nil c) F_laws_FnExactFirstCollision (by
  intro vs es r h; unfold F_laws_FnExactFirstCollision at h; split at h
  · cases h; kernel_rfl
  · cases h)


end Go.SX
