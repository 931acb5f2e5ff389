/- What functions of the program come to, row by row (made by a program of the workplace). -/
import Derived.Test.YtepaifhehlpbaaaDoorTXh
import Derived.Test.YtepaifhehlpbaaaDoorProg
import Derived.Test.YtepaifhehlpbaaaDoorRg
import Derived.Test.YtepaifhehlpbaaaDoorNh
namespace Go.SX
open Go.Proofs
set_option maxRecDepth 100000

def laws_FnExactRunBlock_a0 (x1 : ByteArray) : Bool :=
  ltI (laws_szTerm_0 x1 (1048576 : Int)) (0 : Int)

def laws_FnExactRunBlock_a1 (x1 : ByteArray) (x3 : List (List Int)) : Bool :=
  ltI (szSS (laws_szTerm_0 x1 (1048576 : Int)) x3) (0 : Int)

def laws_FnExactRunBlock_a2 (x0 : Int) (x1 : ByteArray) (x2 : Int) (x3 : List (List Int)) : Bool :=
  !laws_eqBlockState_0 (impl_RunBlock_0 x0 x1 x2 x3) (impl_RunBlock_1 x0 x1 x2 x3) (impl_RunBlock_2 x0 x1 x2 x3) (spec_RunBlock_0 x0 x1 x2 x3)
    (spec_RunBlock_1 x0 x1 x2 x3) (spec_RunBlock_2 x0 x1 x2 x3)

def laws_FnExactRunBlock_a3 (x0 : Int) (x1 : ByteArray) (x2 : Int) (x3 : List (List Int)) : Bool :=
  impl_RunBlock_3 x0 x1 x2 x3 != spec_RunBlock_3 x0 x1 x2 x3

def laws_FnExactRunBlock_a4 (x0 : Int) (x1 : ByteArray) (x2 : Int) (x3 : List (List Int)) : Bool :=
  bif bif !eqL (impl_RunBlock_4 x0 x1 x2 x3) (spec_RunBlock_4 x0 x1 x2 x3) then true else laws_FnExactRunBlock_a2 x0 x1 x2 x3 then true
  else laws_FnExactRunBlock_a3 x0 x1 x2 x3

def laws_FnExactRunBlock_a5 (x3 : List (List Int)) : Bool :=
  ltI ((1 : Int) + (↑(totN x3) : Int)) (0 : Int)

def laws_FnExactRunBlock_a6 (x0 : Int) (x1 : ByteArray) (x2 : Int) (x3 : List (List Int)) : Bool :=
  bif
    bif bif laws_FnExactRunBlock_a5 x3 then true else !eqL (impl_RunBlock_4 x0 x1 x2 x3) (spec_RunBlock_4 x0 x1 x2 x3) then true
    else laws_FnExactRunBlock_a2 x0 x1 x2 x3 then
  true
  else laws_FnExactRunBlock_a3 x0 x1 x2 x3

def laws_FnExactRunBlock_a7 (x0 : Int) (x1 : ByteArray) (x2 : Int) (x3 : List (List Int)) : List Int :=
  upFrom (1 : Int) (List.length (bif !laws_FnExactRunBlock_a5 x3 && true then impl_RunBlock_4 x0 x1 x2 x3 else impl_RunBlock_4 x0 x1 x2 x3))

def laws_FnExactRunBlock_a8 (x0 : Int) (x1 : ByteArray) (x2 : Int) (x3 : List (List Int)) : Bool :=
  ltI (heldV (1 : Int) (laws_FnExactRunBlock_a7 x0 x1 x2 x3)) (0 : Int)

def laws_FnExactRunBlock_a9 (x0 : Int) (x1 : ByteArray) (x2 : Int) (x3 : List (List Int)) : Bool :=
  heldV (1 : Int) (laws_FnExactRunBlock_a7 x0 x1 x2 x3) !=
  (1 : Int) + (↑(List.length (bif !laws_FnExactRunBlock_a5 x3 && true then impl_RunBlock_4 x0 x1 x2 x3 else impl_RunBlock_4 x0 x1 x2 x3)) : Int)

def laws_FnExactRunBlock_a10 (x0 : Int) (x1 : ByteArray) (x2 : Int) (x3 : List (List Int)) : Bool :=
  bif
    bif
        !eqL (impl_RunBlock_4 x0 x1 x2 x3)
            (bif !laws_FnExactRunBlock_a5 x3 && true then spec_RunBlock_4 x0 x1 x2 x3 else spec_RunBlock_4 x0 x1 x2 x3) then
      true
    else laws_FnExactRunBlock_a2 x0 x1 x2 x3 then
  true
  else laws_FnExactRunBlock_a3 x0 x1 x2 x3

def laws_FnExactRunBlock_a11 (x1 : ByteArray) (x3 : List (List Int)) : Bool :=
  laws_FnExactRunBlock_a0 x1 || (laws_FnExactRunBlock_a1 x1 x3 || ssOk (1048576 : Nat) x3)

def laws_FnExactRunBlock_a12 (x0 : Int) (x1 : ByteArray) (x2 : Int) (x3 : List (List Int)) : Bool :=
  leN (List.length (impl_RunBlock_4 x0 x1 x2 x3)) (9223372036854775807 : Nat)

def laws_FnExactRunBlock_a13 (x0 : Int) (x1 : ByteArray) (x2 : Int) (x3 : List (List Int)) : Bool :=
  leN (List.length (laws_FnExactRunBlock_a7 x0 x1 x2 x3)) (9223372036854775807 : Nat)

def laws_FnExactRunBlock_0 (x0 : Int) (x1 : ByteArray) (x2 : Int) (x3 : List (List Int)) : Bool :=
  bif laws_FnExactRunBlock_a0 x1 then true
  else
  bif laws_FnExactRunBlock_a1 x1 x3 then true
  else
    bif laws_FnExactRunBlock_a4 x0 x1 x2 x3 then false
    else
      bif !eqSS x3 x3 then false
      else
        bif laws_FnExactRunBlock_a6 x0 x1 x2 x3 then false
        else
          bif laws_FnExactRunBlock_a8 x0 x1 x2 x3 then false
          else
            bif laws_FnExactRunBlock_a9 x0 x1 x2 x3 then false
            else
              bif laws_FnExactRunBlock_a10 x0 x1 x2 x3 then false
              else bif laws_FnExactRunBlock_a8 x0 x1 x2 x3 then false else bif laws_FnExactRunBlock_a9 x0 x1 x2 x3 then false else true

def laws_FnExactRunBlock_1 (x0 : Int) (x1 : ByteArray) (x2 : Int) (x3 : List (List Int)) : Bool :=
  allT
  [laws_FnExactRunBlock_a0 x1 ||
      ssOk (9223372036854775807 : Nat) x3 &&
        (leI (-1 : Int) (laws_szTerm_0 x1 (1048576 : Int)) && leI (laws_szTerm_0 x1 (1048576 : Int)) (1048576 : Int)),
    laws_FnExactRunBlock_a11 x1 x3, laws_FnExactRunBlock_a0 x1 || (laws_FnExactRunBlock_a1 x1 x3 || spec_RunBlock_5 x0 x1 x2 x3),
    laws_FnExactRunBlock_a11 x1 x3, laws_FnExactRunBlock_a0 x1 || (laws_FnExactRunBlock_a1 x1 x3 || impl_RunBlock_5 x0 x1 x2 x3),
    laws_FnExactRunBlock_a0 x1 || (laws_FnExactRunBlock_a1 x1 x3 || laws_FnExactRunBlock_a12 x0 x1 x2 x3),
    laws_FnExactRunBlock_a0 x1 || (laws_FnExactRunBlock_a1 x1 x3 || (laws_FnExactRunBlock_a4 x0 x1 x2 x3 || ssOk (1048576 : Nat) x3)),
    laws_FnExactRunBlock_a0 x1 || (laws_FnExactRunBlock_a1 x1 x3 || (laws_FnExactRunBlock_a4 x0 x1 x2 x3 || ssOk (9223372036854775807 : Nat) x3)),
    laws_FnExactRunBlock_a0 x1 ||
      (laws_FnExactRunBlock_a1 x1 x3 ||
        (laws_FnExactRunBlock_a4 x0 x1 x2 x3 || (!eqSS x3 x3 || mkOk (1 : Int) (totN x3) && leN (List.length x3) (9223372036854775807 : Nat)))),
    laws_FnExactRunBlock_a0 x1 ||
      (laws_FnExactRunBlock_a1 x1 x3 ||
        (laws_FnExactRunBlock_a4 x0 x1 x2 x3 || (!eqSS x3 x3 || (!(!laws_FnExactRunBlock_a5 x3 && true) || laws_FnExactRunBlock_a12 x0 x1 x2 x3)))),
    laws_FnExactRunBlock_a0 x1 ||
      (laws_FnExactRunBlock_a1 x1 x3 ||
        (laws_FnExactRunBlock_a4 x0 x1 x2 x3 ||
          (!eqSS x3 x3 ||
            (laws_FnExactRunBlock_a6 x0 x1 x2 x3 ||
              mkOk (1 : Int)
                (List.length (bif !laws_FnExactRunBlock_a5 x3 && true then impl_RunBlock_4 x0 x1 x2 x3 else impl_RunBlock_4 x0 x1 x2 x3)))))),
    laws_FnExactRunBlock_a0 x1 ||
      (laws_FnExactRunBlock_a1 x1 x3 ||
        (laws_FnExactRunBlock_a4 x0 x1 x2 x3 || (!eqSS x3 x3 || (laws_FnExactRunBlock_a6 x0 x1 x2 x3 || laws_FnExactRunBlock_a13 x0 x1 x2 x3)))),
    laws_FnExactRunBlock_a0 x1 ||
      (laws_FnExactRunBlock_a1 x1 x3 ||
        (laws_FnExactRunBlock_a4 x0 x1 x2 x3 ||
          (!eqSS x3 x3 ||
            (laws_FnExactRunBlock_a6 x0 x1 x2 x3 ||
              (laws_FnExactRunBlock_a8 x0 x1 x2 x3 || (laws_FnExactRunBlock_a9 x0 x1 x2 x3 || ssOk (1048576 : Nat) x3)))))),
    laws_FnExactRunBlock_a0 x1 ||
      (laws_FnExactRunBlock_a1 x1 x3 ||
        (laws_FnExactRunBlock_a4 x0 x1 x2 x3 ||
          (!eqSS x3 x3 ||
            (laws_FnExactRunBlock_a6 x0 x1 x2 x3 ||
              (laws_FnExactRunBlock_a8 x0 x1 x2 x3 || (laws_FnExactRunBlock_a9 x0 x1 x2 x3 || impl_RunBlock_5 x0 x1 x2 x3)))))),
    laws_FnExactRunBlock_a0 x1 ||
      (laws_FnExactRunBlock_a1 x1 x3 ||
        (laws_FnExactRunBlock_a4 x0 x1 x2 x3 ||
          (!eqSS x3 x3 ||
            (laws_FnExactRunBlock_a6 x0 x1 x2 x3 ||
              (laws_FnExactRunBlock_a8 x0 x1 x2 x3 || (laws_FnExactRunBlock_a9 x0 x1 x2 x3 || laws_FnExactRunBlock_a12 x0 x1 x2 x3)))))),
    laws_FnExactRunBlock_a0 x1 ||
      (laws_FnExactRunBlock_a1 x1 x3 ||
        (laws_FnExactRunBlock_a4 x0 x1 x2 x3 ||
          (!eqSS x3 x3 ||
            (laws_FnExactRunBlock_a6 x0 x1 x2 x3 ||
              (laws_FnExactRunBlock_a8 x0 x1 x2 x3 ||
                (laws_FnExactRunBlock_a9 x0 x1 x2 x3 || (laws_FnExactRunBlock_a10 x0 x1 x2 x3 || laws_FnExactRunBlock_a13 x0 x1 x2 x3)))))))]

def F_laws_FnExactRunBlock : List SV → List Entry → Option Out
  | [.one ⟨true, [.val (.int .i64 x0), .val (.string x1), .val (.int .i64 x2)]⟩, .one ⟨false, [.ref 0]⟩], [.row false 26 (.sl 2 (.int .i64)) x3] => some ⟨(.one ⟨false, [(.val (.bool (laws_FnExactRunBlock_0 x0 x1 x2 x3)))]⟩), [(.row false 26 (CTy.sl (2 : TypeId) (CTy.int IntKind.i64)) x3)], [], [(laws_FnExactRunBlock_1 x0 x1 x2 x3)]⟩
  | _, _ => none

def p_laws_FnExactRunBlock : PF Tryd.prog := PF.ofG Tryd.prog [p_laws_szTerm, p_laws_toTerm, p_laws_eqBlockState, n_laws_eqInt64S, PF.lend n_laws_eqInt64S, PF.fz n_laws_eqInt64S, p_impl_RunBlock, PF.lend p_impl_RunBlock, PF.fz p_impl_RunBlock, p_spec_RunBlock, PF.lend p_spec_RunBlock, PF.fz p_spec_RunBlock, n_laws_szInt64SS, PF.lend n_laws_szInt64SS, PF.fz n_laws_szInt64SS, n_laws_toInt64SS, PF.lend n_laws_toInt64SS, PF.fz n_laws_toInt64SS, n_laws_eqInt64SS, PF.lend n_laws_eqInt64SS, PF.fz n_laws_eqInt64SS, n_laws_markInt64SS, PF.lend n_laws_markInt64SS, PF.fz n_laws_markInt64SS, n_laws_markInt64S, PF.lend n_laws_markInt64S, PF.fz n_laws_markInt64S, n_laws_heldInt64S, PF.lend n_laws_heldInt64S, PF.fz n_laws_heldInt64S] [] hmix 7 Tryd.f7 Tryd.func7 (fun c _ => LOk.nil c) F_laws_FnExactRunBlock (by
  intro vs es r h; unfold F_laws_FnExactRunBlock at h; split at h
  · cases h; kernel_rfl
  · cases h)

end Go.SX
