/- What functions of the program come to, row by row (made by a program of the workplace). -/
import Derived.Test.YtjncnnpdaeociaaTXh
import Derived.Test.YtjncnnpdaeociaaProg
import Derived.Test.YtjncnnpdaeociaaNi
namespace Go.SX
open Go.Proofs
set_option maxRecDepth 100000

def laws_FnExactAllowedMoves_a0 (x1 : List Int) : Bool :=
  ltI (szV (1048576 : Int) x1) (0 : Int)

def laws_FnExactAllowedMoves_a1 (x0 : Int) (x1 : List Int) : Bool :=
  bif !eqL (alList x0 x1) (alList x0 x1) then true else alCode x0 x1 != alCode x0 x1

def laws_FnExactAllowedMoves_a2 (x1 : List Int) : Bool :=
  ltI ((1 : Int) + (↑(List.length x1) : Int)) (0 : Int)

def laws_FnExactAllowedMoves_a3 (x0 : Int) (x1 : List Int) : Bool :=
  bif bif laws_FnExactAllowedMoves_a2 x1 then true else !eqL (alList x0 x1) (alList x0 x1) then true else alCode x0 x1 != alCode x0 x1

def laws_FnExactAllowedMoves_a4 (x0 : Int) (x1 : List Int) : List Int :=
  bif !laws_FnExactAllowedMoves_a2 x1 && true then alList x0 x1 else alList x0 x1

def laws_FnExactAllowedMoves_a5 (x0 : Int) (x1 : List Int) : Int :=
  heldV (1 : Int) (upFrom (1 : Int) (List.length (laws_FnExactAllowedMoves_a4 x0 x1)))

def laws_FnExactAllowedMoves_a6 (x0 : Int) (x1 : List Int) : Bool :=
  laws_FnExactAllowedMoves_a5 x0 x1 != (1 : Int) + (↑(List.length (laws_FnExactAllowedMoves_a4 x0 x1)) : Int)

def laws_FnExactAllowedMoves_a7 (x0 : Int) (x1 : List Int) : Bool :=
  bif !eqL (alList x0 x1) (laws_FnExactAllowedMoves_a4 x0 x1) then true else alCode x0 x1 != alCode x0 x1

def laws_FnExactAllowedMoves_a8 (x0 : Int) (x1 : List Int) : Bool :=
  leN (List.length (upFrom (1 : Int) (List.length (laws_FnExactAllowedMoves_a4 x0 x1)))) (9223372036854775807 : Nat)

def laws_FnExactAllowedMoves_0 (x0 : Int) (x1 : List Int) : Bool :=
  bif laws_FnExactAllowedMoves_a0 x1 then true
  else
  bif laws_FnExactAllowedMoves_a1 x0 x1 then false
  else
    bif !eqT x0 x0 x1 x1 then false
    else
      bif laws_FnExactAllowedMoves_a3 x0 x1 then false
      else
        bif ltI (laws_FnExactAllowedMoves_a5 x0 x1) (0 : Int) then false
        else
          bif laws_FnExactAllowedMoves_a6 x0 x1 then false
          else
            bif laws_FnExactAllowedMoves_a7 x0 x1 then false
            else bif ltI (laws_FnExactAllowedMoves_a5 x0 x1) (0 : Int) then false else bif laws_FnExactAllowedMoves_a6 x0 x1 then false else true

def laws_FnExactAllowedMoves_1 (x0 : Int) (x1 : List Int) : Bool :=
  allT
  [leN (List.length x1) (9223372036854775807 : Nat) && (leI (-1 : Int) (1048576 : Int) && leI (1048576 : Int) (1048576 : Int)),
    laws_FnExactAllowedMoves_a0 x1 || leN (List.length x1) (1048576 : Nat), laws_FnExactAllowedMoves_a0 x1 || leN (List.length x1) (1048576 : Nat),
    laws_FnExactAllowedMoves_a0 x1 || leN (List.length (alList x0 x1)) (9223372036854775807 : Nat),
    laws_FnExactAllowedMoves_a0 x1 || (laws_FnExactAllowedMoves_a1 x0 x1 || leN (List.length x1) (1048576 : Nat)),
    laws_FnExactAllowedMoves_a0 x1 || (laws_FnExactAllowedMoves_a1 x0 x1 || leN (List.length x1) (9223372036854775807 : Nat)),
    laws_FnExactAllowedMoves_a0 x1 || (laws_FnExactAllowedMoves_a1 x0 x1 || (!eqT x0 x0 x1 x1 || mkOk (1 : Int) (List.length x1))),
    laws_FnExactAllowedMoves_a0 x1 ||
      (laws_FnExactAllowedMoves_a1 x0 x1 ||
        (!eqT x0 x0 x1 x1 || (!(!laws_FnExactAllowedMoves_a2 x1 && true) || leN (List.length (alList x0 x1)) (9223372036854775807 : Nat)))),
    laws_FnExactAllowedMoves_a0 x1 ||
      (laws_FnExactAllowedMoves_a1 x0 x1 ||
        (!eqT x0 x0 x1 x1 || (laws_FnExactAllowedMoves_a3 x0 x1 || mkOk (1 : Int) (List.length (laws_FnExactAllowedMoves_a4 x0 x1))))),
    laws_FnExactAllowedMoves_a0 x1 ||
      (laws_FnExactAllowedMoves_a1 x0 x1 || (!eqT x0 x0 x1 x1 || (laws_FnExactAllowedMoves_a3 x0 x1 || laws_FnExactAllowedMoves_a8 x0 x1))),
    laws_FnExactAllowedMoves_a0 x1 ||
      (laws_FnExactAllowedMoves_a1 x0 x1 ||
        (!eqT x0 x0 x1 x1 ||
          (laws_FnExactAllowedMoves_a3 x0 x1 ||
            (ltI (laws_FnExactAllowedMoves_a5 x0 x1) (0 : Int) || (laws_FnExactAllowedMoves_a6 x0 x1 || leN (List.length x1) (1048576 : Nat)))))),
    laws_FnExactAllowedMoves_a0 x1 ||
      (laws_FnExactAllowedMoves_a1 x0 x1 ||
        (!eqT x0 x0 x1 x1 ||
          (laws_FnExactAllowedMoves_a3 x0 x1 ||
            (ltI (laws_FnExactAllowedMoves_a5 x0 x1) (0 : Int) ||
              (laws_FnExactAllowedMoves_a6 x0 x1 || leN (List.length (alList x0 x1)) (9223372036854775807 : Nat)))))),
    laws_FnExactAllowedMoves_a0 x1 ||
      (laws_FnExactAllowedMoves_a1 x0 x1 ||
        (!eqT x0 x0 x1 x1 ||
          (laws_FnExactAllowedMoves_a3 x0 x1 ||
            (ltI (laws_FnExactAllowedMoves_a5 x0 x1) (0 : Int) ||
              (laws_FnExactAllowedMoves_a6 x0 x1 || (laws_FnExactAllowedMoves_a7 x0 x1 || laws_FnExactAllowedMoves_a8 x0 x1))))))]

def F_laws_FnExactAllowedMoves : List SV → List Entry → Option Out
  | [.one ⟨true, [.val (.int .i64 x0), .ref 0]⟩], [.row false 2 (.int .i64) x1] => some ⟨(.one ⟨false, [(.val (.bool (laws_FnExactAllowedMoves_0 x0 x1)))]⟩), [(.row false 2 (CTy.int IntKind.i64) x1)], [], [(laws_FnExactAllowedMoves_1 x0 x1)]⟩
  | _, _ => none

def p_laws_FnExactAllowedMoves : PF Try.prog := PF.ofG Try.prog [n_laws_szTraffic, PF.lend n_laws_szTraffic, PF.fz n_laws_szTraffic, n_laws_toTraffic, PF.lend n_laws_toTraffic, PF.fz n_laws_toTraffic, n_laws_eqTraffic, PF.lend n_laws_eqTraffic, PF.fz n_laws_eqTraffic, n_laws_markTraffic, PF.lend n_laws_markTraffic, PF.fz n_laws_markTraffic, n_spec_AllowedMoves, PF.lend n_spec_AllowedMoves, PF.fz n_spec_AllowedMoves, n_impl_AllowedMoves, PF.lend n_impl_AllowedMoves, PF.fz n_impl_AllowedMoves, n_laws_eqInt64S, PF.lend n_laws_eqInt64S, PF.fz n_laws_eqInt64S, n_laws_markInt64S, PF.lend n_laws_markInt64S, PF.fz n_laws_markInt64S, n_laws_heldInt64S, PF.lend n_laws_heldInt64S, PF.fz n_laws_heldInt64S] [] hmix 5 Try.f5 Try.func5 (fun c _ => LOk.nil c) F_laws_FnExactAllowedMoves (by
  intro vs es r h; unfold F_laws_FnExactAllowedMoves at h; split at h
  · cases h; kernel_rfl
  · cases h)

def laws_FnExactRunMoves_a0 (x1 : List Int) : Bool :=
  ltI (szV (1048576 : Int) x1) (0 : Int)

def laws_FnExactRunMoves_a1 (x0 : Int) (x1 : List Int) (x2 : List Int) : Bool :=
  !eqT (rmN x0 x1 x2) (rmN x0 x1 x2) (rmP x0 x1 x2) (rmP x0 x1 x2)

def laws_FnExactRunMoves_a2 (x0 : Int) (x1 : List Int) (x2 : List Int) : Bool :=
  rmCode x0 x1 x2 != rmCode x0 x1 x2

def laws_FnExactRunMoves_a3 (x1 : List Int) : Int :=
  (1 : Int) + (↑(List.length x1) : Int)

def laws_FnExactRunMoves_a4 (x1 : List Int) (x2 : List Int) : Bool :=
  ltI (laws_FnExactRunMoves_a3 x1 + (↑(List.length x2) : Int)) (0 : Int)

def laws_FnExactRunMoves_a5 (x0 : Int) (x1 : List Int) (x2 : List Int) : Bool :=
  bif bif laws_FnExactRunMoves_a4 x1 x2 then true else laws_FnExactRunMoves_a1 x0 x1 x2 then true else laws_FnExactRunMoves_a2 x0 x1 x2

def laws_FnExactRunMoves_a6 (x0 : Int) (x1 : List Int) (x2 : List Int) : List Int :=
  bif !laws_FnExactRunMoves_a4 x1 x2 && true then rmP x0 x1 x2 else rmP x0 x1 x2

def laws_FnExactRunMoves_a7 (x0 : Int) (x1 : List Int) (x2 : List Int) : Int :=
  heldV1 (1 : Int) (upFrom (1 : Int) (List.length (laws_FnExactRunMoves_a6 x0 x1 x2)))

def laws_FnExactRunMoves_a8 (x0 : Int) (x1 : List Int) (x2 : List Int) : Bool :=
  laws_FnExactRunMoves_a7 x0 x1 x2 != (1 : Int) + (↑(List.length (laws_FnExactRunMoves_a6 x0 x1 x2)) : Int)

def laws_FnExactRunMoves_a9 (x0 : Int) (x1 : List Int) (x2 : List Int) : Bool :=
  bif !eqT (rmN x0 x1 x2) (rmN x0 x1 x2) (rmP x0 x1 x2) (laws_FnExactRunMoves_a6 x0 x1 x2) then true else laws_FnExactRunMoves_a2 x0 x1 x2

def laws_FnExactRunMoves_a10 (x1 : List Int) (x2 : List Int) : Bool :=
  ltI (1048576 : Int) (↑(List.length x2) : Int) || (laws_FnExactRunMoves_a0 x1 || leN (List.length x1) (1048576 : Nat))

def laws_FnExactRunMoves_a11 (x1 : List Int) (x2 : List Int) : Bool :=
  ltI (1048576 : Int) (↑(List.length x2) : Int) || (laws_FnExactRunMoves_a0 x1 || leN (List.length x2) (1048576 : Nat))

def laws_FnExactRunMoves_a12 (x0 : Int) (x1 : List Int) (x2 : List Int) : Bool :=
  leN (List.length (upFrom (1 : Int) (List.length (laws_FnExactRunMoves_a6 x0 x1 x2)))) (9223372036854775807 : Nat)

def laws_FnExactRunMoves_0 (x0 : Int) (x1 : List Int) (x2 : List Int) : Bool :=
  bif ltI (1048576 : Int) (↑(List.length x2) : Int) then true
  else
  bif laws_FnExactRunMoves_a0 x1 then true
  else
    bif bif laws_FnExactRunMoves_a1 x0 x1 x2 then true else laws_FnExactRunMoves_a2 x0 x1 x2 then false
    else
      bif !eqT x0 x0 x1 x1 then false
      else
        bif !eqL x2 x2 then false
        else
          bif laws_FnExactRunMoves_a5 x0 x1 x2 then false
          else
            bif ltI (laws_FnExactRunMoves_a7 x0 x1 x2) (0 : Int) then false
            else
              bif laws_FnExactRunMoves_a8 x0 x1 x2 then false
              else
                bif laws_FnExactRunMoves_a9 x0 x1 x2 then false
                else bif ltI (laws_FnExactRunMoves_a7 x0 x1 x2) (0 : Int) then false else bif laws_FnExactRunMoves_a8 x0 x1 x2 then false else true

def laws_FnExactRunMoves_1 (x0 : Int) (x1 : List Int) (x2 : List Int) : Bool :=
  allT
  [ltI (1048576 : Int) (↑(List.length x2) : Int) ||
      leN (List.length x1) (9223372036854775807 : Nat) && (leI (-1 : Int) (1048576 : Int) && leI (1048576 : Int) (1048576 : Int)),
    laws_FnExactRunMoves_a10 x1 x2, laws_FnExactRunMoves_a11 x1 x2, laws_FnExactRunMoves_a10 x1 x2, laws_FnExactRunMoves_a11 x1 x2,
    ltI (1048576 : Int) (↑(List.length x2) : Int) || (laws_FnExactRunMoves_a0 x1 || leN (List.length (rmP x0 x1 x2)) (9223372036854775807 : Nat)),
    ltI (1048576 : Int) (↑(List.length x2) : Int) ||
      (laws_FnExactRunMoves_a0 x1 ||
        ((bif laws_FnExactRunMoves_a1 x0 x1 x2 then true else laws_FnExactRunMoves_a2 x0 x1 x2) || leN (List.length x1) (1048576 : Nat))),
    ltI (1048576 : Int) (↑(List.length x2) : Int) ||
      (laws_FnExactRunMoves_a0 x1 ||
        ((bif laws_FnExactRunMoves_a1 x0 x1 x2 then true else laws_FnExactRunMoves_a2 x0 x1 x2) || leN (List.length x1) (9223372036854775807 : Nat))),
    ltI (1048576 : Int) (↑(List.length x2) : Int) ||
      (laws_FnExactRunMoves_a0 x1 ||
        ((bif laws_FnExactRunMoves_a1 x0 x1 x2 then true else laws_FnExactRunMoves_a2 x0 x1 x2) ||
          (!eqT x0 x0 x1 x1 || leN (List.length x2) (1048576 : Nat)))),
    ltI (1048576 : Int) (↑(List.length x2) : Int) ||
      (laws_FnExactRunMoves_a0 x1 ||
        ((bif laws_FnExactRunMoves_a1 x0 x1 x2 then true else laws_FnExactRunMoves_a2 x0 x1 x2) ||
          (!eqT x0 x0 x1 x1 || leN (List.length x2) (9223372036854775807 : Nat)))),
    ltI (1048576 : Int) (↑(List.length x2) : Int) ||
      (laws_FnExactRunMoves_a0 x1 ||
        ((bif laws_FnExactRunMoves_a1 x0 x1 x2 then true else laws_FnExactRunMoves_a2 x0 x1 x2) ||
          (!eqT x0 x0 x1 x1 || (!eqL x2 x2 || mkOk (1 : Int) (List.length x1))))),
    ltI (1048576 : Int) (↑(List.length x2) : Int) ||
      (laws_FnExactRunMoves_a0 x1 ||
        ((bif laws_FnExactRunMoves_a1 x0 x1 x2 then true else laws_FnExactRunMoves_a2 x0 x1 x2) ||
          (!eqT x0 x0 x1 x1 || (!eqL x2 x2 || mkOk (laws_FnExactRunMoves_a3 x1) (List.length x2))))),
    ltI (1048576 : Int) (↑(List.length x2) : Int) ||
      (laws_FnExactRunMoves_a0 x1 ||
        ((bif laws_FnExactRunMoves_a1 x0 x1 x2 then true else laws_FnExactRunMoves_a2 x0 x1 x2) ||
          (!eqT x0 x0 x1 x1 ||
            (!eqL x2 x2 || (!(!laws_FnExactRunMoves_a4 x1 x2 && true) || leN (List.length (rmP x0 x1 x2)) (9223372036854775807 : Nat)))))),
    ltI (1048576 : Int) (↑(List.length x2) : Int) ||
      (laws_FnExactRunMoves_a0 x1 ||
        ((bif laws_FnExactRunMoves_a1 x0 x1 x2 then true else laws_FnExactRunMoves_a2 x0 x1 x2) ||
          (!eqT x0 x0 x1 x1 ||
            (!eqL x2 x2 || (laws_FnExactRunMoves_a5 x0 x1 x2 || mkOk (1 : Int) (List.length (laws_FnExactRunMoves_a6 x0 x1 x2))))))),
    ltI (1048576 : Int) (↑(List.length x2) : Int) ||
      (laws_FnExactRunMoves_a0 x1 ||
        ((bif laws_FnExactRunMoves_a1 x0 x1 x2 then true else laws_FnExactRunMoves_a2 x0 x1 x2) ||
          (!eqT x0 x0 x1 x1 || (!eqL x2 x2 || (laws_FnExactRunMoves_a5 x0 x1 x2 || laws_FnExactRunMoves_a12 x0 x1 x2))))),
    ltI (1048576 : Int) (↑(List.length x2) : Int) ||
      (laws_FnExactRunMoves_a0 x1 ||
        ((bif laws_FnExactRunMoves_a1 x0 x1 x2 then true else laws_FnExactRunMoves_a2 x0 x1 x2) ||
          (!eqT x0 x0 x1 x1 ||
            (!eqL x2 x2 ||
              (laws_FnExactRunMoves_a5 x0 x1 x2 ||
                (ltI (laws_FnExactRunMoves_a7 x0 x1 x2) (0 : Int) || (laws_FnExactRunMoves_a8 x0 x1 x2 || leN (List.length x1) (1048576 : Nat)))))))),
    ltI (1048576 : Int) (↑(List.length x2) : Int) ||
      (laws_FnExactRunMoves_a0 x1 ||
        ((bif laws_FnExactRunMoves_a1 x0 x1 x2 then true else laws_FnExactRunMoves_a2 x0 x1 x2) ||
          (!eqT x0 x0 x1 x1 ||
            (!eqL x2 x2 ||
              (laws_FnExactRunMoves_a5 x0 x1 x2 ||
                (ltI (laws_FnExactRunMoves_a7 x0 x1 x2) (0 : Int) || (laws_FnExactRunMoves_a8 x0 x1 x2 || leN (List.length x2) (1048576 : Nat)))))))),
    ltI (1048576 : Int) (↑(List.length x2) : Int) ||
      (laws_FnExactRunMoves_a0 x1 ||
        ((bif laws_FnExactRunMoves_a1 x0 x1 x2 then true else laws_FnExactRunMoves_a2 x0 x1 x2) ||
          (!eqT x0 x0 x1 x1 ||
            (!eqL x2 x2 ||
              (laws_FnExactRunMoves_a5 x0 x1 x2 ||
                (ltI (laws_FnExactRunMoves_a7 x0 x1 x2) (0 : Int) ||
                  (laws_FnExactRunMoves_a8 x0 x1 x2 || leN (List.length (rmP x0 x1 x2)) (9223372036854775807 : Nat)))))))),
    ltI (1048576 : Int) (↑(List.length x2) : Int) ||
      (laws_FnExactRunMoves_a0 x1 ||
        ((bif laws_FnExactRunMoves_a1 x0 x1 x2 then true else laws_FnExactRunMoves_a2 x0 x1 x2) ||
          (!eqT x0 x0 x1 x1 ||
            (!eqL x2 x2 ||
              (laws_FnExactRunMoves_a5 x0 x1 x2 ||
                (ltI (laws_FnExactRunMoves_a7 x0 x1 x2) (0 : Int) ||
                  (laws_FnExactRunMoves_a8 x0 x1 x2 || (laws_FnExactRunMoves_a9 x0 x1 x2 || laws_FnExactRunMoves_a12 x0 x1 x2))))))))]

def F_laws_FnExactRunMoves : List SV → List Entry → Option Out
  | [.one ⟨true, [.val (.int .i64 x0), .ref 0]⟩, .one ⟨false, [.ref 1]⟩], [.row false 2 (.int .i64) x1, .row false 2 (.int .i64) x2] => some ⟨(.one ⟨false, [(.val (.bool (laws_FnExactRunMoves_0 x0 x1 x2)))]⟩), [(.row false 2 (CTy.int IntKind.i64) x1), (.row false 2 (CTy.int IntKind.i64) x2)], [], [(laws_FnExactRunMoves_1 x0 x1 x2)]⟩
  | _, _ => none

def p_laws_FnExactRunMoves : PF Try.prog := PF.ofG Try.prog [n_laws_szTraffic, PF.lend n_laws_szTraffic, PF.fz n_laws_szTraffic, n_laws_toTraffic, PF.lend n_laws_toTraffic, PF.fz n_laws_toTraffic, n_laws_eqTraffic, PF.lend n_laws_eqTraffic, PF.fz n_laws_eqTraffic, n_laws_markTraffic, PF.lend n_laws_markTraffic, PF.fz n_laws_markTraffic, n_laws_heldTraffic, PF.lend n_laws_heldTraffic, PF.fz n_laws_heldTraffic, n_laws_eqInt64S, PF.lend n_laws_eqInt64S, PF.fz n_laws_eqInt64S, n_laws_markInt64S, PF.lend n_laws_markInt64S, PF.fz n_laws_markInt64S, n_spec_RunMoves, PF.lend n_spec_RunMoves, PF.fz n_spec_RunMoves, n_laws_toInt64S, PF.lend n_laws_toInt64S, PF.fz n_laws_toInt64S, n_impl_RunMoves, PF.lend n_impl_RunMoves, PF.fz n_impl_RunMoves] [] hmix 6 Try.f6 Try.func6 (fun c _ => LOk.nil c) F_laws_FnExactRunMoves (by
  intro vs es r h; unfold F_laws_FnExactRunMoves at h; split at h
  · cases h; kernel_rfl
  · cases h)


end Go.SX
