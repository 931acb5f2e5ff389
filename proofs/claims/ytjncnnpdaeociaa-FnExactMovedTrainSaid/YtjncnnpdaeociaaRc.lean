/- What functions of the program come to, row by row (made by a program of the workplace). -/
import Derived.Test.YtjncnnpdaeociaaTXh
import Derived.Test.YtjncnnpdaeociaaProg
import Derived.Test.YtjncnnpdaeociaaNb
namespace Go.SX
open Go.Proofs
set_option maxRecDepth 100000

def laws_FnExactMovedTrain_a0 (x2 : List Int) : Bool :=
  ltI (szV (1048576 : Int) x2) (0 : Int)

def laws_FnExactMovedTrain_a1 (x0 : Int) (x1 : Int) (x2 : List Int) : Bool :=
  !eqT (mvN x0 x2 x1) (mvN x0 x2 x1) (mvP x0 x2 x1) (mvP x0 x2 x1)

def laws_FnExactMovedTrain_a2 (x0 : Int) (x1 : Int) (x2 : List Int) : Bool :=
  mvCode x0 x2 x1 != mvCode x0 x2 x1

def laws_FnExactMovedTrain_a3 (x2 : List Int) : Bool :=
  ltI ((1 : Int) + (↑(List.length x2) : Int)) (0 : Int)

def laws_FnExactMovedTrain_a4 (x0 : Int) (x1 : Int) (x2 : List Int) : Bool :=
  bif bif laws_FnExactMovedTrain_a3 x2 then true else laws_FnExactMovedTrain_a1 x0 x1 x2 then true else laws_FnExactMovedTrain_a2 x0 x1 x2

def laws_FnExactMovedTrain_a5 (x0 : Int) (x1 : Int) (x2 : List Int) : List Int :=
  bif !laws_FnExactMovedTrain_a3 x2 && true then mvP x0 x2 x1 else mvP x0 x2 x1

def laws_FnExactMovedTrain_a6 (x0 : Int) (x1 : Int) (x2 : List Int) : Int :=
  heldV1 (1 : Int) (upFrom (1 : Int) (List.length (laws_FnExactMovedTrain_a5 x0 x1 x2)))

def laws_FnExactMovedTrain_a7 (x0 : Int) (x1 : Int) (x2 : List Int) : Bool :=
  laws_FnExactMovedTrain_a6 x0 x1 x2 != (1 : Int) + (↑(List.length (laws_FnExactMovedTrain_a5 x0 x1 x2)) : Int)

def laws_FnExactMovedTrain_a8 (x0 : Int) (x1 : Int) (x2 : List Int) : Bool :=
  bif !eqT (mvN x0 x2 x1) (mvN x0 x2 x1) (mvP x0 x2 x1) (laws_FnExactMovedTrain_a5 x0 x1 x2) then true else laws_FnExactMovedTrain_a2 x0 x1 x2

def laws_FnExactMovedTrain_a9 (x0 : Int) (x1 : Int) (x2 : List Int) : Bool :=
  leN (List.length (upFrom (1 : Int) (List.length (laws_FnExactMovedTrain_a5 x0 x1 x2)))) (9223372036854775807 : Nat)

def laws_FnExactMovedTrain_0 (x0 : Int) (x1 : Int) (x2 : List Int) : Bool :=
  bif laws_FnExactMovedTrain_a0 x2 then true
  else
  bif bif laws_FnExactMovedTrain_a1 x0 x1 x2 then true else laws_FnExactMovedTrain_a2 x0 x1 x2 then false
  else
    bif !eqT x0 x0 x2 x2 then false
    else
      bif laws_FnExactMovedTrain_a4 x0 x1 x2 then false
      else
        bif ltI (laws_FnExactMovedTrain_a6 x0 x1 x2) (0 : Int) then false
        else
          bif laws_FnExactMovedTrain_a7 x0 x1 x2 then false
          else
            bif laws_FnExactMovedTrain_a8 x0 x1 x2 then false
            else bif ltI (laws_FnExactMovedTrain_a6 x0 x1 x2) (0 : Int) then false else bif laws_FnExactMovedTrain_a7 x0 x1 x2 then false else true

def laws_FnExactMovedTrain_1 (x0 : Int) (x1 : Int) (x2 : List Int) : Bool :=
  allT
  [leN (List.length x2) (9223372036854775807 : Nat) && (leI (-1 : Int) (1048576 : Int) && leI (1048576 : Int) (1048576 : Int)),
    laws_FnExactMovedTrain_a0 x2 || leN (List.length x2) (1048576 : Nat),
    laws_FnExactMovedTrain_a0 x2 || leN (List.length x2) (9223372036854775807 : Nat),
    laws_FnExactMovedTrain_a0 x2 || leN (List.length x2) (1048576 : Nat),
    laws_FnExactMovedTrain_a0 x2 || leN (List.length (mvP x0 x2 x1)) (9223372036854775807 : Nat),
    laws_FnExactMovedTrain_a0 x2 ||
      ((bif laws_FnExactMovedTrain_a1 x0 x1 x2 then true else laws_FnExactMovedTrain_a2 x0 x1 x2) || leN (List.length x2) (1048576 : Nat)),
    laws_FnExactMovedTrain_a0 x2 ||
      ((bif laws_FnExactMovedTrain_a1 x0 x1 x2 then true else laws_FnExactMovedTrain_a2 x0 x1 x2) ||
        leN (List.length x2) (9223372036854775807 : Nat)),
    laws_FnExactMovedTrain_a0 x2 ||
      ((bif laws_FnExactMovedTrain_a1 x0 x1 x2 then true else laws_FnExactMovedTrain_a2 x0 x1 x2) ||
        (!eqT x0 x0 x2 x2 || mkOk (1 : Int) (List.length x2))),
    laws_FnExactMovedTrain_a0 x2 ||
      ((bif laws_FnExactMovedTrain_a1 x0 x1 x2 then true else laws_FnExactMovedTrain_a2 x0 x1 x2) ||
        (!eqT x0 x0 x2 x2 || (!(!laws_FnExactMovedTrain_a3 x2 && true) || leN (List.length (mvP x0 x2 x1)) (9223372036854775807 : Nat)))),
    laws_FnExactMovedTrain_a0 x2 ||
      ((bif laws_FnExactMovedTrain_a1 x0 x1 x2 then true else laws_FnExactMovedTrain_a2 x0 x1 x2) ||
        (!eqT x0 x0 x2 x2 || (laws_FnExactMovedTrain_a4 x0 x1 x2 || mkOk (1 : Int) (List.length (laws_FnExactMovedTrain_a5 x0 x1 x2))))),
    laws_FnExactMovedTrain_a0 x2 ||
      ((bif laws_FnExactMovedTrain_a1 x0 x1 x2 then true else laws_FnExactMovedTrain_a2 x0 x1 x2) ||
        (!eqT x0 x0 x2 x2 || (laws_FnExactMovedTrain_a4 x0 x1 x2 || laws_FnExactMovedTrain_a9 x0 x1 x2))),
    laws_FnExactMovedTrain_a0 x2 ||
      ((bif laws_FnExactMovedTrain_a1 x0 x1 x2 then true else laws_FnExactMovedTrain_a2 x0 x1 x2) ||
        (!eqT x0 x0 x2 x2 ||
          (laws_FnExactMovedTrain_a4 x0 x1 x2 ||
            (ltI (laws_FnExactMovedTrain_a6 x0 x1 x2) (0 : Int) || (laws_FnExactMovedTrain_a7 x0 x1 x2 || leN (List.length x2) (1048576 : Nat)))))),
    laws_FnExactMovedTrain_a0 x2 ||
      ((bif laws_FnExactMovedTrain_a1 x0 x1 x2 then true else laws_FnExactMovedTrain_a2 x0 x1 x2) ||
        (!eqT x0 x0 x2 x2 ||
          (laws_FnExactMovedTrain_a4 x0 x1 x2 ||
            (ltI (laws_FnExactMovedTrain_a6 x0 x1 x2) (0 : Int) ||
              (laws_FnExactMovedTrain_a7 x0 x1 x2 || leN (List.length (mvP x0 x2 x1)) (9223372036854775807 : Nat)))))),
    laws_FnExactMovedTrain_a0 x2 ||
      ((bif laws_FnExactMovedTrain_a1 x0 x1 x2 then true else laws_FnExactMovedTrain_a2 x0 x1 x2) ||
        (!eqT x0 x0 x2 x2 ||
          (laws_FnExactMovedTrain_a4 x0 x1 x2 ||
            (ltI (laws_FnExactMovedTrain_a6 x0 x1 x2) (0 : Int) ||
              (laws_FnExactMovedTrain_a7 x0 x1 x2 || (laws_FnExactMovedTrain_a8 x0 x1 x2 || laws_FnExactMovedTrain_a9 x0 x1 x2))))))]

def F_laws_FnExactMovedTrain : List SV → List Entry → Option Out
  | [.one ⟨true, [.val (.int .i64 x0), .ref 0]⟩, .one ⟨false, [.val (.int .i64 x1)]⟩], [.row false 2 (.int .i64) x2] => some ⟨(.one ⟨false, [(.val (.bool (laws_FnExactMovedTrain_0 x0 x1 x2)))]⟩), [(.row false 2 (CTy.int IntKind.i64) x2)], [], [(laws_FnExactMovedTrain_1 x0 x1 x2)]⟩
  | _, _ => none

def p_laws_FnExactMovedTrain : PF Try.prog := PF.ofG Try.prog [n_laws_szTraffic, PF.lend n_laws_szTraffic, PF.fz n_laws_szTraffic, n_spec_MovedTrain, PF.lend n_spec_MovedTrain, PF.fz n_spec_MovedTrain, n_laws_toTraffic, PF.lend n_laws_toTraffic, PF.fz n_laws_toTraffic, n_impl_MovedTrain, PF.lend n_impl_MovedTrain, PF.fz n_impl_MovedTrain, n_laws_eqTraffic, PF.lend n_laws_eqTraffic, PF.fz n_laws_eqTraffic, n_laws_markTraffic, PF.lend n_laws_markTraffic, PF.fz n_laws_markTraffic, n_laws_heldTraffic, PF.lend n_laws_heldTraffic, PF.fz n_laws_heldTraffic] [] hmix 3 Try.f3 Try.func3 (fun c _ => LOk.nil c) F_laws_FnExactMovedTrain (by
  intro vs es r h; unfold F_laws_FnExactMovedTrain at h; split at h
  · cases h; kernel_rfl
  · cases h)


end Go.SX
