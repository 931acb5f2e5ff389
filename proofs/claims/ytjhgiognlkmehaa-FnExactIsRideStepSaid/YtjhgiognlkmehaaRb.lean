/- What functions of the program come to, row by row (made by a program of the workplace). -/
import Derived.Test.YtjhgiognlkmehaaTXh
import Derived.Test.YtjhgiognlkmehaaProg
import Derived.Test.YtjhgiognlkmehaaNa
namespace Go.SX
open Go.Proofs
set_option maxRecDepth 100000

def laws_eqTraffic_0 (x0 : Int) (x1 : Int) (x2 : List Int) (x3 : List Int) : Bool :=
  bif x0 != x1 then false else bif !eqL x2 x3 then false else true

def laws_eqTraffic_1 (x0 : Int) (x1 : Int) (x2 : List Int) : Bool :=
  allT [x0 != x1 || leN (List.length x2) (9223372036854775807 : Nat)]

def F_laws_eqTraffic : List SV → List Entry → Option Out
  | [.one ⟨true, [.val (.int .i64 x0), .ref 0]⟩, .one ⟨true, [.val (.int .i64 x1), .ref 1]⟩], [.row false 2 (.int .i64) x2, .row false 2 (.int .i64) x3] => some ⟨(.one ⟨false, [(.val (.bool (laws_eqTraffic_0 x0 x1 x2 x3)))]⟩), [(.row false 2 (CTy.int IntKind.i64) x2), (.row false 2 (CTy.int IntKind.i64) x3)], [], [(laws_eqTraffic_1 x0 x1 x2)]⟩
  | _, _ => none

def p_laws_eqTraffic : PF Try.prog := PF.ofG Try.prog [n_laws_eqInt64S, PF.lend n_laws_eqInt64S, PF.fz n_laws_eqInt64S] [] hmix 46 Try.f46 Try.func46 (fun c _ => LOk.nil c) F_laws_eqTraffic (by
  intro vs es r h; unfold F_laws_eqTraffic at h; split at h
  · cases h; kernel_rfl
  · cases h)

def laws_szTraffic_0 (x1 : Int) (x2 : List Int) : Int :=
  bif ltI (szV x1 x2) (0 : Int) then (-1 : Int) else szV x1 x2

def laws_szTraffic_1 (x1 : Int) (x2 : List Int) : Bool :=
  allT [leN (List.length x2) (9223372036854775807 : Nat) && (leI (-1 : Int) x1 && leI x1 (1048576 : Int))]

def F_laws_szTraffic : List SV → List Entry → Option Out
  | [.one ⟨true, [.val (.int .i64 _x0), .ref 0]⟩, .one ⟨false, [.val (.int .i64 x1)]⟩], [.row false 2 (.int .i64) x2] => some ⟨(.one ⟨false, [(.val (.int IntKind.i64 (laws_szTraffic_0 x1 x2)))]⟩), [(.row false 2 (CTy.int IntKind.i64) x2)], [], [(laws_szTraffic_1 x1 x2)]⟩
  | _, _ => none

def p_laws_szTraffic : PF Try.prog := PF.ofG Try.prog [n_laws_szInt64S, PF.lend n_laws_szInt64S, PF.fz n_laws_szInt64S] [] hmix 16 Try.f16 Try.func16 (fun c _ => LOk.nil c) F_laws_szTraffic (by
  intro vs es r h; unfold F_laws_szTraffic at h; split at h
  · cases h; kernel_rfl
  · cases h)

def laws_toTraffic_0 (x1 : List Int) : Bool :=
  allT [leN (List.length x1) (1048576 : Nat)]

def F_laws_toTraffic : List SV → List Entry → Option Out
  | [.one ⟨true, [.val (.int .i64 x0), .ref 0]⟩], [.row false 2 (.int .i64) x1] => some ⟨(.one ⟨true, [(.val (.int IntKind.i64 x0)), (.ref 1)]⟩), [(.row false 2 (CTy.int IntKind.i64) x1)], [(.row true 2 (CTy.int IntKind.i64) x1)], [(laws_toTraffic_0 x1)]⟩
  | _, _ => none

def p_laws_toTraffic : PF Try.prog := PF.ofG Try.prog [n_laws_toInt64S, PF.lend n_laws_toInt64S, PF.fz n_laws_toInt64S] [] hmix 31 Try.f31 Try.func31 (fun c _ => LOk.nil c) F_laws_toTraffic (by
  intro vs es r h; unfold F_laws_toTraffic at h; split at h
  · cases h; kernel_rfl
  · cases h)

end Go.SX
