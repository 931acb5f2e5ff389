/- What functions of the program come to, row by row (made by a program of the workplace). -/
import Derived.Test.YtjncnnpdaeociaaTXh
import Derived.Test.YtjncnnpdaeociaaProg
import Derived.Test.YtjncnnpdaeociaaNr
namespace Go.SX
open Go.Proofs
set_option maxRecDepth 100000

def laws_FnExactUnsafeAfter_a0 (x1 : List Int) : Bool :=
  ltI (szV (1048576 : Int) x1) (0 : Int)

def laws_FnExactUnsafeAfter_a1 (x1 : List Int) (x2 : List (Int × Int × Int)) : Bool :=
  ltI (laws_szReplayEventS_0 (szV (1048576 : Int) x1) x2) (0 : Int)

def laws_FnExactUnsafeAfter_a2 (x0 : Int) (x1 : List Int) (x2 : List (Int × Int × Int)) : Bool :=
  bif rvF x0 x1 x2 != spec_UnsafeAfter_0 x0 x1 x2 then true else rvCode x0 x1 x2 != spec_UnsafeAfter_1 x0 x1 x2

def laws_FnExactUnsafeAfter_a3 (x1 : List Int) (x2 : List (Int × Int × Int)) : Bool :=
  laws_FnExactUnsafeAfter_a0 x1 || (laws_FnExactUnsafeAfter_a1 x1 x2 || leN (List.length x1) (1048576 : Nat))

def laws_FnExactUnsafeAfter_a4 (x2 : List (Int × Int × Int)) : Bool :=
  leN (List.length x2) (1048576 : Nat)

def laws_FnExactUnsafeAfter_0 (x0 : Int) (x1 : List Int) (x2 : List (Int × Int × Int)) : Bool :=
  bif laws_FnExactUnsafeAfter_a0 x1 then true
  else
  bif laws_FnExactUnsafeAfter_a1 x1 x2 then true
  else bif laws_FnExactUnsafeAfter_a2 x0 x1 x2 then false else bif !eqT x0 x0 x1 x1 then false else bif !eqFls x2 x2 then false else true

def laws_FnExactUnsafeAfter_1 (x0 : Int) (x1 : List Int) (x2 : List (Int × Int × Int)) : Bool :=
  allT
  [leN (List.length x1) (9223372036854775807 : Nat) && (leI (-1 : Int) (1048576 : Int) && leI (1048576 : Int) (1048576 : Int)),
    laws_FnExactUnsafeAfter_a3 x1 x2, laws_FnExactUnsafeAfter_a0 x1 || (laws_FnExactUnsafeAfter_a1 x1 x2 || laws_FnExactUnsafeAfter_a4 x2),
    laws_FnExactUnsafeAfter_a3 x1 x2, laws_FnExactUnsafeAfter_a0 x1 || (laws_FnExactUnsafeAfter_a1 x1 x2 || laws_FnExactUnsafeAfter_a4 x2),
    laws_FnExactUnsafeAfter_a0 x1 ||
      (laws_FnExactUnsafeAfter_a1 x1 x2 || (laws_FnExactUnsafeAfter_a2 x0 x1 x2 || leN (List.length x1) (1048576 : Nat))),
    laws_FnExactUnsafeAfter_a0 x1 ||
      (laws_FnExactUnsafeAfter_a1 x1 x2 || (laws_FnExactUnsafeAfter_a2 x0 x1 x2 || leN (List.length x1) (9223372036854775807 : Nat))),
    laws_FnExactUnsafeAfter_a0 x1 ||
      (laws_FnExactUnsafeAfter_a1 x1 x2 || (laws_FnExactUnsafeAfter_a2 x0 x1 x2 || (!eqT x0 x0 x1 x1 || laws_FnExactUnsafeAfter_a4 x2))),
    laws_FnExactUnsafeAfter_a0 x1 ||
      (laws_FnExactUnsafeAfter_a1 x1 x2 ||
        (laws_FnExactUnsafeAfter_a2 x0 x1 x2 || (!eqT x0 x0 x1 x1 || leN (List.length x2) (9223372036854775807 : Nat))))]

def F_laws_FnExactUnsafeAfter : List SV → List Entry → Option Out
  | [.one ⟨true, [.val (.int .i64 x0), .ref 0]⟩, .one ⟨false, [.ref 1]⟩], [.row false 2 (.int .i64) x1, .row false 131 (.pair (.int .i64) (.pair (.int .i64) (.int .i64))) x2] => some ⟨(.one ⟨false, [(.val (.bool (laws_FnExactUnsafeAfter_0 x0 x1 x2)))]⟩), [(.row false 2 (CTy.int IntKind.i64) x1), (.row false 131 (CTy.pair (CTy.int IntKind.i64) (CTy.pair (CTy.int IntKind.i64) (CTy.int IntKind.i64))) x2)], [], [(laws_FnExactUnsafeAfter_1 x0 x1 x2)]⟩
  | _, _ => none

def p_laws_FnExactUnsafeAfter : PF Try.prog := PF.ofG Try.prog [n_laws_szTraffic, PF.lend n_laws_szTraffic, PF.fz n_laws_szTraffic, n_laws_toTraffic, PF.lend n_laws_toTraffic, PF.fz n_laws_toTraffic, n_laws_eqTraffic, PF.lend n_laws_eqTraffic, PF.fz n_laws_eqTraffic, p_laws_szReplayEventS, PF.lend p_laws_szReplayEventS, PF.fz p_laws_szReplayEventS, p_spec_UnsafeAfter, PF.lend p_spec_UnsafeAfter, PF.fz p_spec_UnsafeAfter, n_laws_toReplayEventS, PF.lend n_laws_toReplayEventS, PF.fz n_laws_toReplayEventS, n_impl_UnsafeAfter, PF.lend n_impl_UnsafeAfter, PF.fz n_impl_UnsafeAfter, n_laws_eqReplayEventS, PF.lend n_laws_eqReplayEventS, PF.fz n_laws_eqReplayEventS] [] hmix 11 Try.f11 Try.func11 (fun c _ => LOk.nil c) F_laws_FnExactUnsafeAfter (by
  intro vs es r h; unfold F_laws_FnExactUnsafeAfter at h; split at h
  · cases h; kernel_rfl
  · cases h)


end Go.SX
