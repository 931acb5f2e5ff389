/- What functions of the program come to, row by row (made by a program of the workplace). -/
import Derived.Test.YtepaifhehlpbaaaDoorTXh
import Derived.Test.YtepaifhehlpbaaaDoorProg
import Derived.Test.YtepaifhehlpbaaaDoorRf
namespace Go.SX
open Go.Proofs
set_option maxRecDepth 100000

def laws_FnExactScansUntil_a0 (x1 : ByteArray) : Bool :=
  ltI (laws_szTerm_0 x1 (1048576 : Int)) (0 : Int)

def laws_FnExactScansUntil_a1 (x0 : Int) (x1 : ByteArray) (x2 : Int) (x3 : Int) (x4 : Int) (x5 : Int) (x6 : List Int) : Bool :=
  bif impl_ScansUntil_0 x0 x1 x2 x3 x4 x5 x6 != spec_ScansUntil_0 x0 x1 x2 x3 x4 x5 x6 then true
  else impl_ScansUntil_1 x0 x1 x2 x3 x4 x5 x6 != spec_ScansUntil_1 x0 x1 x2 x3 x4 x5 x6

def laws_FnExactScansUntil_a2 (x1 : ByteArray) (x6 : List Int) : Bool :=
  ltI (1048576 : Int) (↑(List.length x6) : Int) || (laws_FnExactScansUntil_a0 x1 || leN (List.length x6) (1048576 : Nat))

def laws_FnExactScansUntil_0 (x0 : Int) (x1 : ByteArray) (x2 : Int) (x3 : Int) (x4 : Int) (x5 : Int) (x6 : List Int) : Bool :=
  bif ltI (1048576 : Int) (↑(List.length x6) : Int) then true
  else
  bif laws_FnExactScansUntil_a0 x1 then true
  else bif laws_FnExactScansUntil_a1 x0 x1 x2 x3 x4 x5 x6 then false else bif !eqL x6 x6 then false else true

def laws_FnExactScansUntil_1 (x0 : Int) (x1 : ByteArray) (x2 : Int) (x3 : Int) (x4 : Int) (x5 : Int) (x6 : List Int) : Bool :=
  allT
  [laws_FnExactScansUntil_a2 x1 x6,
    ltI (1048576 : Int) (↑(List.length x6) : Int) || (laws_FnExactScansUntil_a0 x1 || spec_ScansUntil_2 x0 x1 x2 x3 x4 x5 x6),
    laws_FnExactScansUntil_a2 x1 x6,
    ltI (1048576 : Int) (↑(List.length x6) : Int) || (laws_FnExactScansUntil_a0 x1 || impl_ScansUntil_2 x0 x1 x2 x3 x4 x5 x6),
    ltI (1048576 : Int) (↑(List.length x6) : Int) ||
      (laws_FnExactScansUntil_a0 x1 || (laws_FnExactScansUntil_a1 x0 x1 x2 x3 x4 x5 x6 || leN (List.length x6) (1048576 : Nat))),
    ltI (1048576 : Int) (↑(List.length x6) : Int) ||
      (laws_FnExactScansUntil_a0 x1 || (laws_FnExactScansUntil_a1 x0 x1 x2 x3 x4 x5 x6 || leN (List.length x6) (9223372036854775807 : Nat)))]

def F_laws_FnExactScansUntil : List SV → List Entry → Option Out
  | [.one ⟨true, [.val (.int .i64 x0), .val (.string x1), .val (.int .i64 x2)]⟩, .one ⟨true, [.val (.int .i64 x3), .val (.int .i64 x4), .val (.int .i64 x5)]⟩, .one ⟨false, [.ref 0]⟩], [.row false 2 (.int .i64) x6] => some ⟨(.one ⟨false, [(.val (.bool (laws_FnExactScansUntil_0 x0 x1 x2 x3 x4 x5 x6)))]⟩), [(.row false 2 (CTy.int IntKind.i64) x6)], [], [(laws_FnExactScansUntil_1 x0 x1 x2 x3 x4 x5 x6)]⟩
  | _, _ => none

def p_laws_FnExactScansUntil : PF Tryd.prog := PF.ofG Tryd.prog [p_laws_szTerm, p_laws_toTerm, p_laws_toBlockState, n_laws_toInt64S, PF.lend n_laws_toInt64S, PF.fz n_laws_toInt64S, n_laws_eqInt64S, PF.lend n_laws_eqInt64S, PF.fz n_laws_eqInt64S, p_spec_ScansUntil, PF.lend p_spec_ScansUntil, PF.fz p_spec_ScansUntil, p_impl_ScansUntil, PF.lend p_impl_ScansUntil, PF.fz p_impl_ScansUntil] [] hmix 4 Tryd.f4 Tryd.func4 (fun c _ => LOk.nil c) F_laws_FnExactScansUntil (by
  intro vs es r h; unfold F_laws_FnExactScansUntil at h; split at h
  · cases h; kernel_rfl
  · cases h)

end Go.SX
