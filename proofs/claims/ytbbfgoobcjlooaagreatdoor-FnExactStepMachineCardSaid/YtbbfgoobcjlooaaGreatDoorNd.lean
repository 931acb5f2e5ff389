/- What functions of the program come to, and what that says in plain words: part 4. -/
import Derived.Test.YtbbfgoobcjlooaaGreatDoorNc
import Derived.Test.YtbbfgoobcjlooaaGreatDoorTXh
import Derived.Test.YtbbfgoobcjlooaaGreatDoorProg
import Derived.Test.YtbbfgoobcjlooaaGreatDoorTXi
set_option linter.unusedSimpArgs false
set_option linter.unusedVariables false
namespace Go.SX
open Go.Proofs
set_option maxRecDepth 100000

def kt5 (x1 : Int) (x2 : List Int) (x3 : List Int) (x4 : List Int) : Bool :=
  ltI (szV (szV (szV x1 x2) x3) x4) (0 : Int)

def kte (x1 : Int) (x2 : List Int) (x3 : List Int) (x4 : List Int) (x5 : List (Int × Int × Int)) : Int :=
  szL (szV (szV (szV x1 x2) x3) x4) (List.length x5)

def kem (x1 : Int) (x2 : List Int) (x3 : List Int) (x4 : List Int) (x5 : List (Int × Int × Int)) : Int :=
  bif ltI (szV x1 x2) (0 : Int) then (-1 : Int)
  else
  bif ltI (szV (szV x1 x2) x3) (0 : Int) then (-1 : Int)
  else
    bif kt5 x1 x2 x3 x4 then (-1 : Int)
    else bif ltI (kte x1 x2 x3 x4 x5) (0 : Int) then (-1 : Int) else kte x1 x2 x3 x4 x5

def koe (x1 : Int) (x2 : List Int) (x3 : List Int) (x4 : List Int) (x5 : List (Int × Int × Int)) : Bool :=
  allT
  [leN (List.length x2) (9223372036854775807 : Nat) && (leI (-1 : Int) x1 && leI x1 (1048576 : Int)),
    ltI (szV x1 x2) (0 : Int) || leN (List.length x3) (9223372036854775807 : Nat) && (leI (-1 : Int) (szV x1 x2) && leI (szV x1 x2) (1048576 : Int)),
    ltI (szV x1 x2) (0 : Int) ||
      (ltI (szV (szV x1 x2) x3) (0 : Int) ||
        leN (List.length x4) (9223372036854775807 : Nat) && (leI (-1 : Int) (szV (szV x1 x2) x3) && leI (szV (szV x1 x2) x3) (1048576 : Int))),
    ltI (szV x1 x2) (0 : Int) ||
      (ltI (szV (szV x1 x2) x3) (0 : Int) ||
        (kt5 x1 x2 x3 x4 ||
          leN (List.length x5) (9223372036854775807 : Nat) &&
            (leI (-1 : Int) (szV (szV (szV x1 x2) x3) x4) && leI (szV (szV (szV x1 x2) x3) x4) (1048576 : Int))))]

def kye : List SV → List Entry → Option Out
  | [.one ⟨true, [.val (.int .i64 _x0), .ref 0, .ref 1, .ref 2, .ref 3]⟩, .one ⟨false, [.val (.int .i64 x1)]⟩], [.row false 2 (.int .i64) x2, .row false 2 (.int .i64) x3, .row false 2 (.int .i64) x4, .row false 194 (.pair (.int .i64) (.pair (.int .i64) (.int .i64))) x5] => some ⟨(.one ⟨false, [(.val (.int IntKind.i64 (kem x1 x2 x3 x4 x5)))]⟩), [(.row false 2 (CTy.int IntKind.i64) x2), (.row false 2 (CTy.int IntKind.i64) x3), (.row false 2 (CTy.int IntKind.i64) x4), (.row false 194 (CTy.pair (CTy.int IntKind.i64) (CTy.pair (CTy.int IntKind.i64) (CTy.int IntKind.i64))) x5)], [], [(koe x1 x2 x3 x4 x5)]⟩
  | _, _ => none

def kl1 : PF Tryz.prog := PF.ofG Tryz.prog [kq2, PF.lend kq2, PF.fz kq2, kw4, PF.lend kw4, PF.fz kw4] [] hmix 49 Tryz.f49 Tryz.func49 (fun c _ => LOk.nil c) kye (by
  intro vs es r h; unfold kye at h; split at h
  · cases h; kernel_rfl
  · cases h)

def kbm (x1 : List Int) (x2 : List Int) (x3 : List Int) (x4 : List (Int × Int × Int)) : Bool :=
  allT
  [leN (List.length x1) (1048576 : Nat), leN (List.length x2) (1048576 : Nat), leN (List.length x3) (1048576 : Nat),
    leN (List.length x4) (1048576 : Nat)]

def kz5 : List SV → List Entry → Option Out
  | [.one ⟨true, [.val (.int .i64 x0), .ref 0, .ref 1, .ref 2, .ref 3]⟩], [.row false 2 (.int .i64) x1, .row false 2 (.int .i64) x2, .row false 2 (.int .i64) x3, .row false 194 (.pair (.int .i64) (.pair (.int .i64) (.int .i64))) x4] => some ⟨(.one ⟨true, [(.val (.int IntKind.i64 x0)), (.ref 4), (.ref 5), (.ref 6), (.ref 7)]⟩), [(.row false 2 (CTy.int IntKind.i64) x1), (.row false 2 (CTy.int IntKind.i64) x2), (.row false 2 (CTy.int IntKind.i64) x3), (.row false 194 (CTy.pair (CTy.int IntKind.i64) (CTy.pair (CTy.int IntKind.i64) (CTy.int IntKind.i64))) x4)], [(.row true 2 (CTy.int IntKind.i64) x1), (.row true 2 (CTy.int IntKind.i64) x2), (.row true 2 (CTy.int IntKind.i64) x3), (.row true 172 (CTy.pair (CTy.int IntKind.i64) (CTy.pair (CTy.int IntKind.i64) (CTy.int IntKind.i64))) x4)], [(kbm x1 x2 x3 x4)]⟩
  | _, _ => none

def kkl : PF Tryz.prog := PF.ofG Tryz.prog [kpw, PF.lend kpw, PF.fz kpw, kg3, PF.lend kg3, PF.fz kg3] [] hmix 51 Tryz.f51 Tryz.func51 (fun c _ => LOk.nil c) kz5 (by
  intro vs es r h; unfold kz5 at h; split at h
  · cases h; kernel_rfl
  · cases h)

def k1i (x0 : Int) (x1 : Int) (x2 : List Int) (x3 : List Int) (x4 : List Int) (x5 : List (Int × Int × Int)) (x6 : List Int) (x7 : List Int) (x8 : List Int) (x9 : List (Int × Int × Int)) : Bool :=
  bif x0 != x1 then false
  else bif !eqL x2 x6 then false else bif !eqL x3 x7 then false else bif !eqL x4 x8 then false else bif !eqBs x5 x9 then false else true

def kii (x0 : Int) (x1 : Int) (x2 : List Int) (x3 : List Int) (x4 : List Int) (x5 : List (Int × Int × Int)) (x6 : List Int) (x7 : List Int) (x8 : List Int) : Bool :=
  allT
  [x0 != x1 || leN (List.length x2) (9223372036854775807 : Nat), x0 != x1 || (!eqL x2 x6 || leN (List.length x3) (9223372036854775807 : Nat)),
    x0 != x1 || (!eqL x2 x6 || (!eqL x3 x7 || leN (List.length x4) (9223372036854775807 : Nat))),
    x0 != x1 || (!eqL x2 x6 || (!eqL x3 x7 || (!eqL x4 x8 || leN (List.length x5) (9223372036854775807 : Nat))))]

def kz3 : List SV → List Entry → Option Out
  | [.one ⟨true, [.val (.int .i64 x0), .ref 0, .ref 1, .ref 2, .ref 3]⟩, .one ⟨true, [.val (.int .i64 x1), .ref 4, .ref 5, .ref 6, .ref 7]⟩], [.row false 2 (.int .i64) x2, .row false 2 (.int .i64) x3, .row false 2 (.int .i64) x4, .row false 172 (.pair (.int .i64) (.pair (.int .i64) (.int .i64))) x5, .row false 2 (.int .i64) x6, .row false 2 (.int .i64) x7, .row false 2 (.int .i64) x8, .row false 172 (.pair (.int .i64) (.pair (.int .i64) (.int .i64))) x9] => some ⟨(.one ⟨false, [(.val (.bool (k1i x0 x1 x2 x3 x4 x5 x6 x7 x8 x9)))]⟩), [(.row false 2 (CTy.int IntKind.i64) x2), (.row false 2 (CTy.int IntKind.i64) x3), (.row false 2 (CTy.int IntKind.i64) x4), (.row false 172 (CTy.pair (CTy.int IntKind.i64) (CTy.pair (CTy.int IntKind.i64) (CTy.int IntKind.i64))) x5), (.row false 2 (CTy.int IntKind.i64) x6), (.row false 2 (CTy.int IntKind.i64) x7), (.row false 2 (CTy.int IntKind.i64) x8), (.row false 172 (CTy.pair (CTy.int IntKind.i64) (CTy.pair (CTy.int IntKind.i64) (CTy.int IntKind.i64))) x9)], [], [(kii x0 x1 x2 x3 x4 x5 x6 x7 x8)]⟩
  | _, _ => none

def kk6 : PF Tryz.prog := PF.ofG Tryz.prog [kpv, PF.lend kpv, PF.fz kpv, kg4, PF.lend kg4, PF.fz kg4] [] hmix 53 Tryz.f53 Tryz.func53 (fun c _ => LOk.nil c) kz3 (by
  intro vs es r h; unfold kz3 at h; split at h
  · cases h; kernel_rfl
  · cases h)

def kce (x1 : Int) (x2 : List Int) : Int :=
  x1 + (↑(List.length x2) : Int)

def kcc (x1 : Int) (x2 : List Int) (x3 : List Int) : Int :=
  kce x1 x2 + (↑(List.length x3) : Int)

def kcf (x1 : Int) (x2 : List Int) (x3 : List Int) (x4 : List Int) : Int :=
  kcc x1 x2 x3 + (↑(List.length x4) : Int)

def k4e (x1 : Int) (x2 : List Int) (x3 : List Int) (x4 : List Int) (x5 : List (Int × Int × Int)) : Int :=
  kcf x1 x2 x3 x4 + (3 : Int) * (↑(List.length x5) : Int)

def kfw (x1 : Int) (x2 : List Int) : List Int :=
  upFrom x1 (List.length x2)

def kfp (x1 : Int) (x2 : List Int) (x3 : List Int) : List Int :=
  upFrom (kce x1 x2) (List.length x3)

def kfn (x1 : Int) (x2 : List Int) (x3 : List Int) (x4 : List Int) : List Int :=
  upFrom (kcc x1 x2 x3) (List.length x4)

def kfk (x1 : Int) (x2 : List Int) (x3 : List Int) (x4 : List Int) (x5 : List (Int × Int × Int)) : List (Int × (Int × Int)) :=
  upG (3 : Nat) mkB (kcf x1 x2 x3 x4) (List.length x5)

def kfg (x1 : Int) (x2 : List Int) (x3 : List Int) (x4 : List Int) (x5 : List (Int × Int × Int)) : Bool :=
  allT
  [mkOk x1 (List.length x2), mkOk (kce x1 x2) (List.length x3), mkOk (kcc x1 x2 x3) (List.length x4),
    mkOk3 (3 : Nat) (kcf x1 x2 x3 x4) (List.length x5) && leN (List.length x5) (9223372036854775807 : Nat)]

def kwq : List SV → List Entry → Option Out
  | [.one ⟨true, [.val (.int .i64 _x0), .ref 0, .ref 1, .ref 2, .ref 3]⟩, .one ⟨false, [.val (.int .i64 x1)]⟩], [.row true 2 (.int .i64) x2, .row true 2 (.int .i64) x3, .row true 2 (.int .i64) x4, .row true 172 (.pair (.int .i64) (.pair (.int .i64) (.int .i64))) x5] => some ⟨(.one ⟨false, [(.val (.int IntKind.i64 (k4e x1 x2 x3 x4 x5)))]⟩), [(.row true 2 (CTy.int IntKind.i64) (kfw x1 x2)), (.row true 2 (CTy.int IntKind.i64) (kfp x1 x2 x3)), (.row true 2 (CTy.int IntKind.i64) (kfn x1 x2 x3 x4)), (.row true 172 (CTy.pair (CTy.int IntKind.i64) (CTy.pair (CTy.int IntKind.i64) (CTy.int IntKind.i64))) (kfk x1 x2 x3 x4 x5))], [], [(kfg x1 x2 x3 x4 x5)]⟩
  | _, _ => none

def khm : PF Tryz.prog := PF.ofG Tryz.prog [koc, PF.lend koc, PF.fz koc, kdc, PF.lend kdc, PF.fz kdc] [] hmix 54 Tryz.f54 Tryz.func54 (fun c _ => LOk.nil c) kwq (by
  intro vs es r h; unfold kwq at h; split at h
  · cases h; kernel_rfl
  · cases h)

def knj (x1 : Int) (x2 : List Int) (x3 : List Int) (x4 : List Int) : Bool :=
  ltI (heldV (heldV (heldV x1 x2) x3) x4) (0 : Int)

def kkh (x1 : Int) (x2 : List Int) (x3 : List Int) (x4 : List Int) (x5 : List (Int × Int × Int)) : Int :=
  bif ltI (heldV x1 x2) (0 : Int) then (-1 : Int)
  else
  bif ltI (heldV (heldV x1 x2) x3) (0 : Int) then (-1 : Int)
  else
    bif knj x1 x2 x3 x4 then (-1 : Int)
    else bif ltI (heldB (heldV (heldV (heldV x1 x2) x3) x4) x5) (0 : Int) then (-1 : Int) else heldB (heldV (heldV (heldV x1 x2) x3) x4) x5

def kku (x1 : Int) (x2 : List Int) (x3 : List Int) (x4 : List Int) (x5 : List (Int × Int × Int)) : Bool :=
  allT
  [leN (List.length x2) (9223372036854775807 : Nat), ltI (heldV x1 x2) (0 : Int) || leN (List.length x3) (9223372036854775807 : Nat),
    ltI (heldV x1 x2) (0 : Int) || (ltI (heldV (heldV x1 x2) x3) (0 : Int) || leN (List.length x4) (9223372036854775807 : Nat)),
    ltI (heldV x1 x2) (0 : Int) ||
      (ltI (heldV (heldV x1 x2) x3) (0 : Int) || (knj x1 x2 x3 x4 || leN (List.length x5) (9223372036854775807 : Nat)))]

def kw9 : List SV → List Entry → Option Out
  | [.one ⟨true, [.val (.int .i64 _x0), .ref 0, .ref 1, .ref 2, .ref 3]⟩, .one ⟨false, [.val (.int .i64 x1)]⟩], [.row false 2 (.int .i64) x2, .row false 2 (.int .i64) x3, .row false 2 (.int .i64) x4, .row false 172 (.pair (.int .i64) (.pair (.int .i64) (.int .i64))) x5] => some ⟨(.one ⟨false, [(.val (.int IntKind.i64 (kkh x1 x2 x3 x4 x5)))]⟩), [(.row false 2 (CTy.int IntKind.i64) x2), (.row false 2 (CTy.int IntKind.i64) x3), (.row false 2 (CTy.int IntKind.i64) x4), (.row false 172 (CTy.pair (CTy.int IntKind.i64) (CTy.pair (CTy.int IntKind.i64) (CTy.int IntKind.i64))) x5)], [], [(kku x1 x2 x3 x4 x5)]⟩
  | _, _ => none

def khn : PF Tryz.prog := PF.ofG Tryz.prog [ko3, PF.lend ko3, PF.fz ko3, kti, PF.lend kti, PF.fz kti] [] hmix 55 Tryz.f55 Tryz.func55 (fun c _ => LOk.nil c) kw9 (by
  intro vs es r h; unfold kw9 at h; split at h
  · cases h; kernel_rfl
  · cases h)

def kn (x4 : List (Int × ByteArray × Int)) (x5 : List (Int × Int)) : Bool :=
  ltI (k8a (1048576 : Int) x4 x5) (0 : Int)

def kt (x4 : List (Int × ByteArray × Int)) (x5 : List (Int × Int)) (x6 : List Int) (x7 : List Int) (x8 : List Int) (x9 : List (Int × Int × Int)) : Bool :=
  ltI (kem (k8a (1048576 : Int) x4 x5) x6 x7 x8 x9) (0 : Int)

def k4l (x0 : Int) (x1 : Int) (x2 : Int) (x3 : Int) (x4 : List (Int × ByteArray × Int)) (x5 : List (Int × Int)) (x6 : List Int) (x7 : List Int) (x8 : List Int) (x9 : List (Int × Int × Int)) (x10 : List Int) : Int :=
  Prod.fst (ssM x0 x1 x2 x4 x5 x3 x6 x7 x8 x9 x10)

def k34 (x0 : Int) (x1 : Int) (x2 : Int) (x3 : Int) (x4 : List (Int × ByteArray × Int)) (x5 : List (Int × Int)) (x6 : List Int) (x7 : List Int) (x8 : List Int) (x9 : List (Int × Int × Int)) (x10 : List Int) : List Int :=
  Prod.fst (Prod.snd (ssM x0 x1 x2 x4 x5 x3 x6 x7 x8 x9 x10))

def k37 (x0 : Int) (x1 : Int) (x2 : Int) (x3 : Int) (x4 : List (Int × ByteArray × Int)) (x5 : List (Int × Int)) (x6 : List Int) (x7 : List Int) (x8 : List Int) (x9 : List (Int × Int × Int)) (x10 : List Int) : List Int :=
  Prod.fst (Prod.snd (Prod.snd (ssM x0 x1 x2 x4 x5 x3 x6 x7 x8 x9 x10)))

def k36 (x0 : Int) (x1 : Int) (x2 : Int) (x3 : Int) (x4 : List (Int × ByteArray × Int)) (x5 : List (Int × Int)) (x6 : List Int) (x7 : List Int) (x8 : List Int) (x9 : List (Int × Int × Int)) (x10 : List Int) : List Int :=
  Prod.fst (Prod.snd (Prod.snd (Prod.snd (ssM x0 x1 x2 x4 x5 x3 x6 x7 x8 x9 x10))))

def k7p (x0 : Int) (x1 : Int) (x2 : Int) (x3 : Int) (x4 : List (Int × ByteArray × Int)) (x5 : List (Int × Int)) (x6 : List Int) (x7 : List Int) (x8 : List Int) (x9 : List (Int × Int × Int)) (x10 : List Int) : Bool :=
  !k1i (k4l x0 x1 x2 x3 x4 x5 x6 x7 x8 x9 x10) (k4l x0 x1 x2 x3 x4 x5 x6 x7 x8 x9 x10)
    (k34 x0 x1 x2 x3 x4 x5 x6 x7 x8 x9 x10) (k37 x0 x1 x2 x3 x4 x5 x6 x7 x8 x9 x10)
    (k36 x0 x1 x2 x3 x4 x5 x6 x7 x8 x9 x10) (Prod.snd (Prod.snd (Prod.snd (Prod.snd (ssM x0 x1 x2 x4 x5 x3 x6 x7 x8 x9 x10)))))
    (k34 x0 x1 x2 x3 x4 x5 x6 x7 x8 x9 x10) (k37 x0 x1 x2 x3 x4 x5 x6 x7 x8 x9 x10)
    (k36 x0 x1 x2 x3 x4 x5 x6 x7 x8 x9 x10) (Prod.snd (Prod.snd (Prod.snd (Prod.snd (ssM x0 x1 x2 x4 x5 x3 x6 x7 x8 x9 x10)))))

def k7q (x0 : Int) (x1 : Int) (x2 : Int) (x3 : Int) (x4 : List (Int × ByteArray × Int)) (x5 : List (Int × Int)) (x6 : List Int) (x7 : List Int) (x8 : List Int) (x9 : List (Int × Int × Int)) (x10 : List Int) : Bool :=
  ssCode x0 x1 x2 x4 x5 x3 x6 x7 x8 x9 x10 != ssCode x0 x1 x2 x4 x5 x3 x6 x7 x8 x9 x10

def kx (x0 : Int) (x1 : Int) (x2 : Int) (x3 : Int) (x4 : List (Int × ByteArray × Int)) (x5 : List (Int × Int)) (x6 : List Int) (x7 : List Int) (x8 : List Int) (x9 : List (Int × Int × Int)) (x10 : List Int) : Bool :=
  bif k7p x0 x1 x2 x3 x4 x5 x6 x7 x8 x9 x10 then true else k7q x0 x1 x2 x3 x4 x5 x6 x7 x8 x9 x10

def k7y (x4 : List (Int × ByteArray × Int)) (x5 : List (Int × Int)) (x6 : List Int) (x7 : List Int) (x8 : List Int) (x9 : List (Int × Int × Int)) : Int :=
  k4e (k91 (1 : Int) x4 x5) x6 x7 x8 x9

def k2w (x4 : List (Int × ByteArray × Int)) (x5 : List (Int × Int)) (x6 : List Int) (x7 : List Int) (x8 : List Int) (x9 : List (Int × Int × Int)) (x10 : List Int) : Bool :=
  ltI (k7y x4 x5 x6 x7 x8 x9 + (↑(List.length x10) : Int)) (0 : Int)

def k23 (x0 : Int) (x1 : Int) (x2 : Int) (x3 : Int) (x4 : List (Int × ByteArray × Int)) (x5 : List (Int × Int)) (x6 : List Int) (x7 : List Int) (x8 : List Int) (x9 : List (Int × Int × Int)) (x10 : List Int) : Bool :=
  bif bif k2w x4 x5 x6 x7 x8 x9 x10 then true else k7p x0 x1 x2 x3 x4 x5 x6 x7 x8 x9 x10 then true
  else k7q x0 x1 x2 x3 x4 x5 x6 x7 x8 x9 x10

def k2x (x0 : Int) (x1 : Int) (x2 : Int) (x3 : Int) (x4 : List (Int × ByteArray × Int)) (x5 : List (Int × Int)) (x6 : List Int) (x7 : List Int) (x8 : List Int) (x9 : List (Int × Int × Int)) (x10 : List Int) : List Int :=
  bif !k2w x4 x5 x6 x7 x8 x9 x10 && true then k34 x0 x1 x2 x3 x4 x5 x6 x7 x8 x9 x10
  else k34 x0 x1 x2 x3 x4 x5 x6 x7 x8 x9 x10

def k77 (x0 : Int) (x1 : Int) (x2 : Int) (x3 : Int) (x4 : List (Int × ByteArray × Int)) (x5 : List (Int × Int)) (x6 : List Int) (x7 : List Int) (x8 : List Int) (x9 : List (Int × Int × Int)) (x10 : List Int) : List Int :=
  kfw (1 : Int) (k2x x0 x1 x2 x3 x4 x5 x6 x7 x8 x9 x10)

def k38 (x0 : Int) (x1 : Int) (x2 : Int) (x3 : Int) (x4 : List (Int × ByteArray × Int)) (x5 : List (Int × Int)) (x6 : List Int) (x7 : List Int) (x8 : List Int) (x9 : List (Int × Int × Int)) (x10 : List Int) : List Int :=
  bif !k2w x4 x5 x6 x7 x8 x9 x10 && true then k37 x0 x1 x2 x3 x4 x5 x6 x7 x8 x9 x10
  else k37 x0 x1 x2 x3 x4 x5 x6 x7 x8 x9 x10

def k76 (x0 : Int) (x1 : Int) (x2 : Int) (x3 : Int) (x4 : List (Int × ByteArray × Int)) (x5 : List (Int × Int)) (x6 : List Int) (x7 : List Int) (x8 : List Int) (x9 : List (Int × Int × Int)) (x10 : List Int) : List Int :=
  kfp (1 : Int) (k2x x0 x1 x2 x3 x4 x5 x6 x7 x8 x9 x10)
  (k38 x0 x1 x2 x3 x4 x5 x6 x7 x8 x9 x10)

def k3w (x0 : Int) (x1 : Int) (x2 : Int) (x3 : Int) (x4 : List (Int × ByteArray × Int)) (x5 : List (Int × Int)) (x6 : List Int) (x7 : List Int) (x8 : List Int) (x9 : List (Int × Int × Int)) (x10 : List Int) : List Int :=
  bif !k2w x4 x5 x6 x7 x8 x9 x10 && true then k36 x0 x1 x2 x3 x4 x5 x6 x7 x8 x9 x10
  else k36 x0 x1 x2 x3 x4 x5 x6 x7 x8 x9 x10

def k73 (x0 : Int) (x1 : Int) (x2 : Int) (x3 : Int) (x4 : List (Int × ByteArray × Int)) (x5 : List (Int × Int)) (x6 : List Int) (x7 : List Int) (x8 : List Int) (x9 : List (Int × Int × Int)) (x10 : List Int) : List Int :=
  kfn (1 : Int) (k2x x0 x1 x2 x3 x4 x5 x6 x7 x8 x9 x10)
  (k38 x0 x1 x2 x3 x4 x5 x6 x7 x8 x9 x10) (k3w x0 x1 x2 x3 x4 x5 x6 x7 x8 x9 x10)

def k5d (x0 : Int) (x1 : Int) (x2 : Int) (x3 : Int) (x4 : List (Int × ByteArray × Int)) (x5 : List (Int × Int)) (x6 : List Int) (x7 : List Int) (x8 : List Int) (x9 : List (Int × Int × Int)) (x10 : List Int) : List (Int × Int × Int) :=
  bif !k2w x4 x5 x6 x7 x8 x9 x10 && true then Prod.snd (Prod.snd (Prod.snd (Prod.snd (ssM x0 x1 x2 x4 x5 x3 x6 x7 x8 x9 x10))))
  else Prod.snd (Prod.snd (Prod.snd (Prod.snd (ssM x0 x1 x2 x4 x5 x3 x6 x7 x8 x9 x10))))

def k75 (x0 : Int) (x1 : Int) (x2 : Int) (x3 : Int) (x4 : List (Int × ByteArray × Int)) (x5 : List (Int × Int)) (x6 : List Int) (x7 : List Int) (x8 : List Int) (x9 : List (Int × Int × Int)) (x10 : List Int) : List (Int × Int × Int) :=
  kfk (1 : Int) (k2x x0 x1 x2 x3 x4 x5 x6 x7 x8 x9 x10)
  (k38 x0 x1 x2 x3 x4 x5 x6 x7 x8 x9 x10) (k3w x0 x1 x2 x3 x4 x5 x6 x7 x8 x9 x10)
  (k5d x0 x1 x2 x3 x4 x5 x6 x7 x8 x9 x10)

def k7b (x0 : Int) (x1 : Int) (x2 : Int) (x3 : Int) (x4 : List (Int × ByteArray × Int)) (x5 : List (Int × Int)) (x6 : List Int) (x7 : List Int) (x8 : List Int) (x9 : List (Int × Int × Int)) (x10 : List Int) : Int :=
  kkh (1 : Int) (k77 x0 x1 x2 x3 x4 x5 x6 x7 x8 x9 x10)
  (k76 x0 x1 x2 x3 x4 x5 x6 x7 x8 x9 x10) (k73 x0 x1 x2 x3 x4 x5 x6 x7 x8 x9 x10)
  (k75 x0 x1 x2 x3 x4 x5 x6 x7 x8 x9 x10)

def k2a (x0 : Int) (x1 : Int) (x2 : Int) (x3 : Int) (x4 : List (Int × ByteArray × Int)) (x5 : List (Int × Int)) (x6 : List Int) (x7 : List Int) (x8 : List Int) (x9 : List (Int × Int × Int)) (x10 : List Int) : Bool :=
  ltI (k7b x0 x1 x2 x3 x4 x5 x6 x7 x8 x9 x10) (0 : Int)

def k28 (x0 : Int) (x1 : Int) (x2 : Int) (x3 : Int) (x4 : List (Int × ByteArray × Int)) (x5 : List (Int × Int)) (x6 : List Int) (x7 : List Int) (x8 : List Int) (x9 : List (Int × Int × Int)) (x10 : List Int) : Bool :=
  k7b x0 x1 x2 x3 x4 x5 x6 x7 x8 x9 x10 !=
  k4e (1 : Int) (k2x x0 x1 x2 x3 x4 x5 x6 x7 x8 x9 x10)
    (k38 x0 x1 x2 x3 x4 x5 x6 x7 x8 x9 x10) (k3w x0 x1 x2 x3 x4 x5 x6 x7 x8 x9 x10)
    (k5d x0 x1 x2 x3 x4 x5 x6 x7 x8 x9 x10)

def k72 (x4 : List (Int × ByteArray × Int)) (x5 : List (Int × Int)) (x6 : List Int) (x7 : List Int) (x8 : List Int) (x9 : List (Int × Int × Int)) (x10 : List Int) : Bool :=
  ltI (1048576 : Int) (↑(List.length x10) : Int) ||
  (kn x4 x5 || (kt x4 x5 x6 x7 x8 x9 || kg7 x4 x5))

def k74 (x4 : List (Int × ByteArray × Int)) (x5 : List (Int × Int)) (x6 : List Int) (x7 : List Int) (x8 : List Int) (x9 : List (Int × Int × Int)) (x10 : List Int) : Bool :=
  ltI (1048576 : Int) (↑(List.length x10) : Int) ||
  (kn x4 x5 || (kt x4 x5 x6 x7 x8 x9 || kbm x6 x7 x8 x9))

def k7a (x4 : List (Int × ByteArray × Int)) (x5 : List (Int × Int)) (x6 : List Int) (x7 : List Int) (x8 : List Int) (x9 : List (Int × Int × Int)) (x10 : List Int) : Bool :=
  ltI (1048576 : Int) (↑(List.length x10) : Int) ||
  (kn x4 x5 || (kt x4 x5 x6 x7 x8 x9 || leN (List.length x10) (1048576 : Nat)))

def k78 (x4 : List (Int × ByteArray × Int)) (x6 : List Int) (x7 : List Int) (x8 : List Int) (x9 : List (Int × Int × Int)) (x10 : List Int) : Bool :=
  mhNd x4 x6 x7 x8 [x10] && leN (List.length x9) (1048576 : Nat)

def k5a (x0 : Int) (x1 : Int) (x2 : Int) (x3 : Int) (x4 : List (Int × ByteArray × Int)) (x5 : List (Int × Int)) (x6 : List Int) (x7 : List Int) (x8 : List Int) (x9 : List (Int × Int × Int)) (x10 : List Int) : Bool :=
  kii (k4l x0 x1 x2 x3 x4 x5 x6 x7 x8 x9 x10) (k4l x0 x1 x2 x3 x4 x5 x6 x7 x8 x9 x10)
  (k34 x0 x1 x2 x3 x4 x5 x6 x7 x8 x9 x10) (k37 x0 x1 x2 x3 x4 x5 x6 x7 x8 x9 x10)
  (k36 x0 x1 x2 x3 x4 x5 x6 x7 x8 x9 x10) (Prod.snd (Prod.snd (Prod.snd (Prod.snd (ssM x0 x1 x2 x4 x5 x3 x6 x7 x8 x9 x10)))))
  (k34 x0 x1 x2 x3 x4 x5 x6 x7 x8 x9 x10) (k37 x0 x1 x2 x3 x4 x5 x6 x7 x8 x9 x10)
  (k36 x0 x1 x2 x3 x4 x5 x6 x7 x8 x9 x10)

def k79 (x0 : Int) (x1 : Int) (x2 : Int) (x3 : Int) (x4 : List (Int × ByteArray × Int)) (x5 : List (Int × Int)) (x6 : List Int) (x7 : List Int) (x8 : List Int) (x9 : List (Int × Int × Int)) (x10 : List Int) : Bool :=
  kku (1 : Int) (k77 x0 x1 x2 x3 x4 x5 x6 x7 x8 x9 x10)
  (k76 x0 x1 x2 x3 x4 x5 x6 x7 x8 x9 x10) (k73 x0 x1 x2 x3 x4 x5 x6 x7 x8 x9 x10)
  (k75 x0 x1 x2 x3 x4 x5 x6 x7 x8 x9 x10)

def kb9 (x0 : Int) (x1 : Int) (x2 : Int) (x3 : Int) (x4 : List (Int × ByteArray × Int)) (x5 : List (Int × Int)) (x6 : List Int) (x7 : List Int) (x8 : List Int) (x9 : List (Int × Int × Int)) (x10 : List Int) : Bool :=
  bif ltI (1048576 : Int) (↑(List.length x10) : Int) then true
  else
  bif kn x4 x5 then true
  else
    bif kt x4 x5 x6 x7 x8 x9 then true
    else
      bif kx x0 x1 x2 x3 x4 x5 x6 x7 x8 x9 x10 then false
      else
        bif !k1y x0 x1 x2 x0 x1 x2 x4 x5 x4 x5 then false
        else
          bif !k1i x3 x3 x6 x7 x8 x9 x6 x7 x8 x9 then false
          else
            bif !eqL x10 x10 then false
            else
              bif k23 x0 x1 x2 x3 x4 x5 x6 x7 x8 x9 x10 then false
              else
                bif k2a x0 x1 x2 x3 x4 x5 x6 x7 x8 x9 x10 then false
                else
                  bif k28 x0 x1 x2 x3 x4 x5 x6 x7 x8 x9 x10 then false
                  else
                    bif kx x0 x1 x2 x3 x4 x5 x6 x7 x8 x9 x10 then false
                    else
                      bif k2a x0 x1 x2 x3 x4 x5 x6 x7 x8 x9 x10 then false
                      else bif k28 x0 x1 x2 x3 x4 x5 x6 x7 x8 x9 x10 then false else true

def kba (x0 : Int) (x1 : Int) (x2 : Int) (x3 : Int) (x4 : List (Int × ByteArray × Int)) (x5 : List (Int × Int)) (x6 : List Int) (x7 : List Int) (x8 : List Int) (x9 : List (Int × Int × Int)) (x10 : List Int) : Bool :=
  allT
  [ltI (1048576 : Int) (↑(List.length x10) : Int) || kt0 (1048576 : Int) x4 x5,
    ltI (1048576 : Int) (↑(List.length x10) : Int) ||
      (kn x4 x5 || koe (k8a (1048576 : Int) x4 x5) x6 x7 x8 x9),
    k72 x4 x5 x6 x7 x8 x9 x10, k74 x4 x5 x6 x7 x8 x9 x10,
    k7a x4 x5 x6 x7 x8 x9 x10,
    ltI (1048576 : Int) (↑(List.length x10) : Int) ||
      (kn x4 x5 || (kt x4 x5 x6 x7 x8 x9 || mhNd x4 x6 x7 x8 [x10])),
    k72 x4 x5 x6 x7 x8 x9 x10, k74 x4 x5 x6 x7 x8 x9 x10,
    k7a x4 x5 x6 x7 x8 x9 x10,
    ltI (1048576 : Int) (↑(List.length x10) : Int) ||
      (kn x4 x5 || (kt x4 x5 x6 x7 x8 x9 || k78 x4 x6 x7 x8 x9 x10)),
    ltI (1048576 : Int) (↑(List.length x10) : Int) ||
      (kn x4 x5 ||
        (kt x4 x5 x6 x7 x8 x9 || k5a x0 x1 x2 x3 x4 x5 x6 x7 x8 x9 x10)),
    ltI (1048576 : Int) (↑(List.length x10) : Int) ||
      (kn x4 x5 ||
        (kt x4 x5 x6 x7 x8 x9 || (kx x0 x1 x2 x3 x4 x5 x6 x7 x8 x9 x10 || kg7 x4 x5))),
    ltI (1048576 : Int) (↑(List.length x10) : Int) ||
      (kn x4 x5 ||
        (kt x4 x5 x6 x7 x8 x9 ||
          (kx x0 x1 x2 x3 x4 x5 x6 x7 x8 x9 x10 || ko7 x0 x1 x2 x0 x1 x2 x4 x5 x4))),
    ltI (1048576 : Int) (↑(List.length x10) : Int) ||
      (kn x4 x5 ||
        (kt x4 x5 x6 x7 x8 x9 ||
          (kx x0 x1 x2 x3 x4 x5 x6 x7 x8 x9 x10 ||
            (!k1y x0 x1 x2 x0 x1 x2 x4 x5 x4 x5 || kbm x6 x7 x8 x9)))),
    ltI (1048576 : Int) (↑(List.length x10) : Int) ||
      (kn x4 x5 ||
        (kt x4 x5 x6 x7 x8 x9 ||
          (kx x0 x1 x2 x3 x4 x5 x6 x7 x8 x9 x10 ||
            (!k1y x0 x1 x2 x0 x1 x2 x4 x5 x4 x5 || kii x3 x3 x6 x7 x8 x9 x6 x7 x8)))),
    ltI (1048576 : Int) (↑(List.length x10) : Int) ||
      (kn x4 x5 ||
        (kt x4 x5 x6 x7 x8 x9 ||
          (kx x0 x1 x2 x3 x4 x5 x6 x7 x8 x9 x10 ||
            (!k1y x0 x1 x2 x0 x1 x2 x4 x5 x4 x5 ||
              (!k1i x3 x3 x6 x7 x8 x9 x6 x7 x8 x9 || leN (List.length x10) (1048576 : Nat)))))),
    ltI (1048576 : Int) (↑(List.length x10) : Int) ||
      (kn x4 x5 ||
        (kt x4 x5 x6 x7 x8 x9 ||
          (kx x0 x1 x2 x3 x4 x5 x6 x7 x8 x9 x10 ||
            (!k1y x0 x1 x2 x0 x1 x2 x4 x5 x4 x5 ||
              (!k1i x3 x3 x6 x7 x8 x9 x6 x7 x8 x9 || leN (List.length x10) (9223372036854775807 : Nat)))))),
    ltI (1048576 : Int) (↑(List.length x10) : Int) ||
      (kn x4 x5 ||
        (kt x4 x5 x6 x7 x8 x9 ||
          (kx x0 x1 x2 x3 x4 x5 x6 x7 x8 x9 x10 ||
            (!k1y x0 x1 x2 x0 x1 x2 x4 x5 x4 x5 ||
              (!k1i x3 x3 x6 x7 x8 x9 x6 x7 x8 x9 || (!eqL x10 x10 || kph (1 : Int) x4 x5)))))),
    ltI (1048576 : Int) (↑(List.length x10) : Int) ||
      (kn x4 x5 ||
        (kt x4 x5 x6 x7 x8 x9 ||
          (kx x0 x1 x2 x3 x4 x5 x6 x7 x8 x9 x10 ||
            (!k1y x0 x1 x2 x0 x1 x2 x4 x5 x4 x5 ||
              (!k1i x3 x3 x6 x7 x8 x9 x6 x7 x8 x9 ||
                (!eqL x10 x10 || kfg (k91 (1 : Int) x4 x5) x6 x7 x8 x9)))))),
    ltI (1048576 : Int) (↑(List.length x10) : Int) ||
      (kn x4 x5 ||
        (kt x4 x5 x6 x7 x8 x9 ||
          (kx x0 x1 x2 x3 x4 x5 x6 x7 x8 x9 x10 ||
            (!k1y x0 x1 x2 x0 x1 x2 x4 x5 x4 x5 ||
              (!k1i x3 x3 x6 x7 x8 x9 x6 x7 x8 x9 ||
                (!eqL x10 x10 || mkOk (k7y x4 x5 x6 x7 x8 x9) (List.length x10))))))),
    ltI (1048576 : Int) (↑(List.length x10) : Int) ||
      (kn x4 x5 ||
        (kt x4 x5 x6 x7 x8 x9 ||
          (kx x0 x1 x2 x3 x4 x5 x6 x7 x8 x9 x10 ||
            (!k1y x0 x1 x2 x0 x1 x2 x4 x5 x4 x5 ||
              (!k1i x3 x3 x6 x7 x8 x9 x6 x7 x8 x9 ||
                (!eqL x10 x10 ||
                  (!(!k2w x4 x5 x6 x7 x8 x9 x10 && true) ||
                    k5a x0 x1 x2 x3 x4 x5 x6 x7 x8 x9 x10))))))),
    ltI (1048576 : Int) (↑(List.length x10) : Int) ||
      (kn x4 x5 ||
        (kt x4 x5 x6 x7 x8 x9 ||
          (kx x0 x1 x2 x3 x4 x5 x6 x7 x8 x9 x10 ||
            (!k1y x0 x1 x2 x0 x1 x2 x4 x5 x4 x5 ||
              (!k1i x3 x3 x6 x7 x8 x9 x6 x7 x8 x9 ||
                (!eqL x10 x10 ||
                  (k23 x0 x1 x2 x3 x4 x5 x6 x7 x8 x9 x10 ||
                    kfg (1 : Int) (k2x x0 x1 x2 x3 x4 x5 x6 x7 x8 x9 x10)
                      (k38 x0 x1 x2 x3 x4 x5 x6 x7 x8 x9 x10) (k3w x0 x1 x2 x3 x4 x5 x6 x7 x8 x9 x10)
                      (k5d x0 x1 x2 x3 x4 x5 x6 x7 x8 x9 x10)))))))),
    ltI (1048576 : Int) (↑(List.length x10) : Int) ||
      (kn x4 x5 ||
        (kt x4 x5 x6 x7 x8 x9 ||
          (kx x0 x1 x2 x3 x4 x5 x6 x7 x8 x9 x10 ||
            (!k1y x0 x1 x2 x0 x1 x2 x4 x5 x4 x5 ||
              (!k1i x3 x3 x6 x7 x8 x9 x6 x7 x8 x9 ||
                (!eqL x10 x10 ||
                  (k23 x0 x1 x2 x3 x4 x5 x6 x7 x8 x9 x10 ||
                    k79 x0 x1 x2 x3 x4 x5 x6 x7 x8 x9 x10))))))),
    ltI (1048576 : Int) (↑(List.length x10) : Int) ||
      (kn x4 x5 ||
        (kt x4 x5 x6 x7 x8 x9 ||
          (kx x0 x1 x2 x3 x4 x5 x6 x7 x8 x9 x10 ||
            (!k1y x0 x1 x2 x0 x1 x2 x4 x5 x4 x5 ||
              (!k1i x3 x3 x6 x7 x8 x9 x6 x7 x8 x9 ||
                (!eqL x10 x10 ||
                  (k23 x0 x1 x2 x3 x4 x5 x6 x7 x8 x9 x10 ||
                    (k2a x0 x1 x2 x3 x4 x5 x6 x7 x8 x9 x10 ||
                      (k28 x0 x1 x2 x3 x4 x5 x6 x7 x8 x9 x10 || kg7 x4 x5))))))))),
    ltI (1048576 : Int) (↑(List.length x10) : Int) ||
      (kn x4 x5 ||
        (kt x4 x5 x6 x7 x8 x9 ||
          (kx x0 x1 x2 x3 x4 x5 x6 x7 x8 x9 x10 ||
            (!k1y x0 x1 x2 x0 x1 x2 x4 x5 x4 x5 ||
              (!k1i x3 x3 x6 x7 x8 x9 x6 x7 x8 x9 ||
                (!eqL x10 x10 ||
                  (k23 x0 x1 x2 x3 x4 x5 x6 x7 x8 x9 x10 ||
                    (k2a x0 x1 x2 x3 x4 x5 x6 x7 x8 x9 x10 ||
                      (k28 x0 x1 x2 x3 x4 x5 x6 x7 x8 x9 x10 || kbm x6 x7 x8 x9))))))))),
    ltI (1048576 : Int) (↑(List.length x10) : Int) ||
      (kn x4 x5 ||
        (kt x4 x5 x6 x7 x8 x9 ||
          (kx x0 x1 x2 x3 x4 x5 x6 x7 x8 x9 x10 ||
            (!k1y x0 x1 x2 x0 x1 x2 x4 x5 x4 x5 ||
              (!k1i x3 x3 x6 x7 x8 x9 x6 x7 x8 x9 ||
                (!eqL x10 x10 ||
                  (k23 x0 x1 x2 x3 x4 x5 x6 x7 x8 x9 x10 ||
                    (k2a x0 x1 x2 x3 x4 x5 x6 x7 x8 x9 x10 ||
                      (k28 x0 x1 x2 x3 x4 x5 x6 x7 x8 x9 x10 || leN (List.length x10) (1048576 : Nat)))))))))),
    ltI (1048576 : Int) (↑(List.length x10) : Int) ||
      (kn x4 x5 ||
        (kt x4 x5 x6 x7 x8 x9 ||
          (kx x0 x1 x2 x3 x4 x5 x6 x7 x8 x9 x10 ||
            (!k1y x0 x1 x2 x0 x1 x2 x4 x5 x4 x5 ||
              (!k1i x3 x3 x6 x7 x8 x9 x6 x7 x8 x9 ||
                (!eqL x10 x10 ||
                  (k23 x0 x1 x2 x3 x4 x5 x6 x7 x8 x9 x10 ||
                    (k2a x0 x1 x2 x3 x4 x5 x6 x7 x8 x9 x10 ||
                      (k28 x0 x1 x2 x3 x4 x5 x6 x7 x8 x9 x10 || k78 x4 x6 x7 x8 x9 x10))))))))),
    ltI (1048576 : Int) (↑(List.length x10) : Int) ||
      (kn x4 x5 ||
        (kt x4 x5 x6 x7 x8 x9 ||
          (kx x0 x1 x2 x3 x4 x5 x6 x7 x8 x9 x10 ||
            (!k1y x0 x1 x2 x0 x1 x2 x4 x5 x4 x5 ||
              (!k1i x3 x3 x6 x7 x8 x9 x6 x7 x8 x9 ||
                (!eqL x10 x10 ||
                  (k23 x0 x1 x2 x3 x4 x5 x6 x7 x8 x9 x10 ||
                    (k2a x0 x1 x2 x3 x4 x5 x6 x7 x8 x9 x10 ||
                      (k28 x0 x1 x2 x3 x4 x5 x6 x7 x8 x9 x10 ||
                        k5a x0 x1 x2 x3 x4 x5 x6 x7 x8 x9 x10))))))))),
    ltI (1048576 : Int) (↑(List.length x10) : Int) ||
      (kn x4 x5 ||
        (kt x4 x5 x6 x7 x8 x9 ||
          (kx x0 x1 x2 x3 x4 x5 x6 x7 x8 x9 x10 ||
            (!k1y x0 x1 x2 x0 x1 x2 x4 x5 x4 x5 ||
              (!k1i x3 x3 x6 x7 x8 x9 x6 x7 x8 x9 ||
                (!eqL x10 x10 ||
                  (k23 x0 x1 x2 x3 x4 x5 x6 x7 x8 x9 x10 ||
                    (k2a x0 x1 x2 x3 x4 x5 x6 x7 x8 x9 x10 ||
                      (k28 x0 x1 x2 x3 x4 x5 x6 x7 x8 x9 x10 ||
                        (kx x0 x1 x2 x3 x4 x5 x6 x7 x8 x9 x10 ||
                          k79 x0 x1 x2 x3 x4 x5 x6 x7 x8 x9 x10))))))))))]

def kqe : List SV → List Entry → Option Out
  | [.one ⟨true, [.val (.int .i64 x0), .val (.int .i64 x1), .val (.int .i64 x2), .ref 0, .ref 1]⟩, .one ⟨true, [.val (.int .i64 x3), .ref 2, .ref 3, .ref 4, .ref 5]⟩, .one ⟨false, [.ref 6]⟩], [.row false 175 (.pair (.int .i64) (.pair (.str) (.int .i64))) x4, .row false 183 (.pair (.int .i64) (.int .i64)) x5, .row false 2 (.int .i64) x6, .row false 2 (.int .i64) x7, .row false 2 (.int .i64) x8, .row false 194 (.pair (.int .i64) (.pair (.int .i64) (.int .i64))) x9, .row false 2 (.int .i64) x10] => some ⟨(.one ⟨false, [(.val (.bool (kb9 x0 x1 x2 x3 x4 x5 x6 x7 x8 x9 x10)))]⟩), [(.row false 175 (CTy.pair (CTy.int IntKind.i64) (CTy.pair CTy.str (CTy.int IntKind.i64))) x4), (.row false 183 (CTy.pair (CTy.int IntKind.i64) (CTy.int IntKind.i64)) x5), (.row false 2 (CTy.int IntKind.i64) x6), (.row false 2 (CTy.int IntKind.i64) x7), (.row false 2 (CTy.int IntKind.i64) x8), (.row false 194 (CTy.pair (CTy.int IntKind.i64) (CTy.pair (CTy.int IntKind.i64) (CTy.int IntKind.i64))) x9), (.row false 2 (CTy.int IntKind.i64) x10)], [], [(kba x0 x1 x2 x3 x4 x5 x6 x7 x8 x9 x10)]⟩
  | _, _ => none

def kwg : PF Tryz.prog := PF.ofG Tryz.prog [kqg, PF.lend kqg, PF.fz kqg, kqf, PF.lend kqf, PF.fz kqf, kqi, PF.lend kqi, PF.fz kqi, kn8, PF.lend kn8, PF.fz kn8, kg3, PF.lend kg3, PF.fz kg3, kg4, PF.lend kg4, PF.fz kg4, kdc, PF.lend kdc, PF.fz kdc, kl1, PF.lend kl1, PF.fz kl1, ks5, PF.lend ks5, PF.fz ks5, kkl, PF.lend kkl, PF.fz kkl, krr, PF.lend krr, PF.fz krr, kk6, PF.lend kk6, PF.fz kk6, khm, PF.lend khm, PF.fz khm, khn, PF.lend khn, PF.fz khn] [] hmix 6 Tryz.f6 Tryz.func6 (fun c _ => LOk.nil c) kqe (by
  intro vs es r h; unfold kqe at h; split at h
  · cases h; kernel_rfl
  · cases h)

def ki (x4 : List (Int × ByteArray × Int)) (x5 : List (Int × Int)) : Bool :=
  ltI (k8a (1048576 : Int) x4 x5) (0 : Int)

def km (x4 : List (Int × ByteArray × Int)) (x5 : List (Int × Int)) (x6 : List Int) (x7 : List Int) (x8 : List Int) (x9 : List (Int × Int × Int)) : Bool :=
  ltI (kem (k8a (1048576 : Int) x4 x5) x6 x7 x8 x9) (0 : Int)

def k3g (x0 : Int) (x1 : Int) (x2 : Int) (x3 : Int) (x4 : List (Int × ByteArray × Int)) (x5 : List (Int × Int)) (x6 : List Int) (x7 : List Int) (x8 : List Int) (x9 : List (Int × Int × Int)) (x10 : List Int) : Int :=
  Prod.fst (sfM x0 x1 x2 x4 x5 x3 x6 x7 x8 x9 x10)

def k2q (x0 : Int) (x1 : Int) (x2 : Int) (x3 : Int) (x4 : List (Int × ByteArray × Int)) (x5 : List (Int × Int)) (x6 : List Int) (x7 : List Int) (x8 : List Int) (x9 : List (Int × Int × Int)) (x10 : List Int) : List Int :=
  Prod.fst (Prod.snd (sfM x0 x1 x2 x4 x5 x3 x6 x7 x8 x9 x10))

def k2r (x0 : Int) (x1 : Int) (x2 : Int) (x3 : Int) (x4 : List (Int × ByteArray × Int)) (x5 : List (Int × Int)) (x6 : List Int) (x7 : List Int) (x8 : List Int) (x9 : List (Int × Int × Int)) (x10 : List Int) : List Int :=
  Prod.fst (Prod.snd (Prod.snd (sfM x0 x1 x2 x4 x5 x3 x6 x7 x8 x9 x10)))

def k2p (x0 : Int) (x1 : Int) (x2 : Int) (x3 : Int) (x4 : List (Int × ByteArray × Int)) (x5 : List (Int × Int)) (x6 : List Int) (x7 : List Int) (x8 : List Int) (x9 : List (Int × Int × Int)) (x10 : List Int) : List Int :=
  Prod.fst (Prod.snd (Prod.snd (Prod.snd (sfM x0 x1 x2 x4 x5 x3 x6 x7 x8 x9 x10))))

def k6k (x0 : Int) (x1 : Int) (x2 : Int) (x3 : Int) (x4 : List (Int × ByteArray × Int)) (x5 : List (Int × Int)) (x6 : List Int) (x7 : List Int) (x8 : List Int) (x9 : List (Int × Int × Int)) (x10 : List Int) : Bool :=
  !k1i (k3g x0 x1 x2 x3 x4 x5 x6 x7 x8 x9 x10) (k3g x0 x1 x2 x3 x4 x5 x6 x7 x8 x9 x10)
    (k2q x0 x1 x2 x3 x4 x5 x6 x7 x8 x9 x10) (k2r x0 x1 x2 x3 x4 x5 x6 x7 x8 x9 x10)
    (k2p x0 x1 x2 x3 x4 x5 x6 x7 x8 x9 x10)
    (Prod.snd (Prod.snd (Prod.snd (Prod.snd (sfM x0 x1 x2 x4 x5 x3 x6 x7 x8 x9 x10)))))
    (k2q x0 x1 x2 x3 x4 x5 x6 x7 x8 x9 x10) (k2r x0 x1 x2 x3 x4 x5 x6 x7 x8 x9 x10)
    (k2p x0 x1 x2 x3 x4 x5 x6 x7 x8 x9 x10)
    (Prod.snd (Prod.snd (Prod.snd (Prod.snd (sfM x0 x1 x2 x4 x5 x3 x6 x7 x8 x9 x10)))))

def k6o (x0 : Int) (x1 : Int) (x2 : Int) (x3 : Int) (x4 : List (Int × ByteArray × Int)) (x5 : List (Int × Int)) (x6 : List Int) (x7 : List Int) (x8 : List Int) (x9 : List (Int × Int × Int)) (x10 : List Int) : Int :=
  mhCode x0 x1 x2 x4 x5 x3 x6 x7 x8 x9 [x10]

def k6n (x0 : Int) (x1 : Int) (x2 : Int) (x3 : Int) (x4 : List (Int × ByteArray × Int)) (x5 : List (Int × Int)) (x6 : List Int) (x7 : List Int) (x8 : List Int) (x9 : List (Int × Int × Int)) (x10 : List Int) : Bool :=
  k6o x0 x1 x2 x3 x4 x5 x6 x7 x8 x9 x10 != k6o x0 x1 x2 x3 x4 x5 x6 x7 x8 x9 x10

def kq (x0 : Int) (x1 : Int) (x2 : Int) (x3 : Int) (x4 : List (Int × ByteArray × Int)) (x5 : List (Int × Int)) (x6 : List Int) (x7 : List Int) (x8 : List Int) (x9 : List (Int × Int × Int)) (x10 : List Int) : Bool :=
  bif k6k x0 x1 x2 x3 x4 x5 x6 x7 x8 x9 x10 then true else k6n x0 x1 x2 x3 x4 x5 x6 x7 x8 x9 x10

def k5q (x4 : List (Int × ByteArray × Int)) (x5 : List (Int × Int)) (x6 : List Int) (x7 : List Int) (x8 : List Int) (x9 : List (Int × Int × Int)) : Int :=
  k4e (k91 (1 : Int) x4 x5) x6 x7 x8 x9

def k2i (x4 : List (Int × ByteArray × Int)) (x5 : List (Int × Int)) (x6 : List Int) (x7 : List Int) (x8 : List Int) (x9 : List (Int × Int × Int)) (x10 : List Int) : Bool :=
  ltI (k5q x4 x5 x6 x7 x8 x9 + (↑(List.length x10) : Int)) (0 : Int)

def k1s (x0 : Int) (x1 : Int) (x2 : Int) (x3 : Int) (x4 : List (Int × ByteArray × Int)) (x5 : List (Int × Int)) (x6 : List Int) (x7 : List Int) (x8 : List Int) (x9 : List (Int × Int × Int)) (x10 : List Int) : Bool :=
  bif bif k2i x4 x5 x6 x7 x8 x9 x10 then true else k6k x0 x1 x2 x3 x4 x5 x6 x7 x8 x9 x10 then true
  else k6n x0 x1 x2 x3 x4 x5 x6 x7 x8 x9 x10

def k2h (x0 : Int) (x1 : Int) (x2 : Int) (x3 : Int) (x4 : List (Int × ByteArray × Int)) (x5 : List (Int × Int)) (x6 : List Int) (x7 : List Int) (x8 : List Int) (x9 : List (Int × Int × Int)) (x10 : List Int) : List Int :=
  bif !k2i x4 x5 x6 x7 x8 x9 x10 && true then k2q x0 x1 x2 x3 x4 x5 x6 x7 x8 x9 x10
  else k2q x0 x1 x2 x3 x4 x5 x6 x7 x8 x9 x10

def k5p (x0 : Int) (x1 : Int) (x2 : Int) (x3 : Int) (x4 : List (Int × ByteArray × Int)) (x5 : List (Int × Int)) (x6 : List Int) (x7 : List Int) (x8 : List Int) (x9 : List (Int × Int × Int)) (x10 : List Int) : List Int :=
  kfw (1 : Int) (k2h x0 x1 x2 x3 x4 x5 x6 x7 x8 x9 x10)

def k2y (x0 : Int) (x1 : Int) (x2 : Int) (x3 : Int) (x4 : List (Int × ByteArray × Int)) (x5 : List (Int × Int)) (x6 : List Int) (x7 : List Int) (x8 : List Int) (x9 : List (Int × Int × Int)) (x10 : List Int) : List Int :=
  bif !k2i x4 x5 x6 x7 x8 x9 x10 && true then k2r x0 x1 x2 x3 x4 x5 x6 x7 x8 x9 x10
  else k2r x0 x1 x2 x3 x4 x5 x6 x7 x8 x9 x10

def k5s (x0 : Int) (x1 : Int) (x2 : Int) (x3 : Int) (x4 : List (Int × ByteArray × Int)) (x5 : List (Int × Int)) (x6 : List Int) (x7 : List Int) (x8 : List Int) (x9 : List (Int × Int × Int)) (x10 : List Int) : List Int :=
  kfp (1 : Int) (k2h x0 x1 x2 x3 x4 x5 x6 x7 x8 x9 x10)
  (k2y x0 x1 x2 x3 x4 x5 x6 x7 x8 x9 x10)

def k3e (x0 : Int) (x1 : Int) (x2 : Int) (x3 : Int) (x4 : List (Int × ByteArray × Int)) (x5 : List (Int × Int)) (x6 : List Int) (x7 : List Int) (x8 : List Int) (x9 : List (Int × Int × Int)) (x10 : List Int) : List Int :=
  bif !k2i x4 x5 x6 x7 x8 x9 x10 && true then k2p x0 x1 x2 x3 x4 x5 x6 x7 x8 x9 x10
  else k2p x0 x1 x2 x3 x4 x5 x6 x7 x8 x9 x10

def k5o (x0 : Int) (x1 : Int) (x2 : Int) (x3 : Int) (x4 : List (Int × ByteArray × Int)) (x5 : List (Int × Int)) (x6 : List Int) (x7 : List Int) (x8 : List Int) (x9 : List (Int × Int × Int)) (x10 : List Int) : List Int :=
  kfn (1 : Int) (k2h x0 x1 x2 x3 x4 x5 x6 x7 x8 x9 x10)
  (k2y x0 x1 x2 x3 x4 x5 x6 x7 x8 x9 x10) (k3e x0 x1 x2 x3 x4 x5 x6 x7 x8 x9 x10)

def k49 (x0 : Int) (x1 : Int) (x2 : Int) (x3 : Int) (x4 : List (Int × ByteArray × Int)) (x5 : List (Int × Int)) (x6 : List Int) (x7 : List Int) (x8 : List Int) (x9 : List (Int × Int × Int)) (x10 : List Int) : List (Int × Int × Int) :=
  bif !k2i x4 x5 x6 x7 x8 x9 x10 && true then
  Prod.snd (Prod.snd (Prod.snd (Prod.snd (sfM x0 x1 x2 x4 x5 x3 x6 x7 x8 x9 x10))))
  else Prod.snd (Prod.snd (Prod.snd (Prod.snd (sfM x0 x1 x2 x4 x5 x3 x6 x7 x8 x9 x10))))

def k5z (x0 : Int) (x1 : Int) (x2 : Int) (x3 : Int) (x4 : List (Int × ByteArray × Int)) (x5 : List (Int × Int)) (x6 : List Int) (x7 : List Int) (x8 : List Int) (x9 : List (Int × Int × Int)) (x10 : List Int) : List (Int × Int × Int) :=
  kfk (1 : Int) (k2h x0 x1 x2 x3 x4 x5 x6 x7 x8 x9 x10)
  (k2y x0 x1 x2 x3 x4 x5 x6 x7 x8 x9 x10) (k3e x0 x1 x2 x3 x4 x5 x6 x7 x8 x9 x10)
  (k49 x0 x1 x2 x3 x4 x5 x6 x7 x8 x9 x10)

def k5t (x0 : Int) (x1 : Int) (x2 : Int) (x3 : Int) (x4 : List (Int × ByteArray × Int)) (x5 : List (Int × Int)) (x6 : List Int) (x7 : List Int) (x8 : List Int) (x9 : List (Int × Int × Int)) (x10 : List Int) : Int :=
  kkh (1 : Int) (k5p x0 x1 x2 x3 x4 x5 x6 x7 x8 x9 x10)
  (k5s x0 x1 x2 x3 x4 x5 x6 x7 x8 x9 x10) (k5o x0 x1 x2 x3 x4 x5 x6 x7 x8 x9 x10)
  (k5z x0 x1 x2 x3 x4 x5 x6 x7 x8 x9 x10)

def k22 (x0 : Int) (x1 : Int) (x2 : Int) (x3 : Int) (x4 : List (Int × ByteArray × Int)) (x5 : List (Int × Int)) (x6 : List Int) (x7 : List Int) (x8 : List Int) (x9 : List (Int × Int × Int)) (x10 : List Int) : Bool :=
  ltI (k5t x0 x1 x2 x3 x4 x5 x6 x7 x8 x9 x10) (0 : Int)

def k21 (x0 : Int) (x1 : Int) (x2 : Int) (x3 : Int) (x4 : List (Int × ByteArray × Int)) (x5 : List (Int × Int)) (x6 : List Int) (x7 : List Int) (x8 : List Int) (x9 : List (Int × Int × Int)) (x10 : List Int) : Bool :=
  k5t x0 x1 x2 x3 x4 x5 x6 x7 x8 x9 x10 !=
  k4e (1 : Int) (k2h x0 x1 x2 x3 x4 x5 x6 x7 x8 x9 x10)
    (k2y x0 x1 x2 x3 x4 x5 x6 x7 x8 x9 x10) (k3e x0 x1 x2 x3 x4 x5 x6 x7 x8 x9 x10)
    (k49 x0 x1 x2 x3 x4 x5 x6 x7 x8 x9 x10)

def k5y (x4 : List (Int × ByteArray × Int)) (x5 : List (Int × Int)) (x6 : List Int) (x7 : List Int) (x8 : List Int) (x9 : List (Int × Int × Int)) (x10 : List Int) : Bool :=
  ltI (1048576 : Int) (↑(List.length x10) : Int) ||
  (ki x4 x5 || (km x4 x5 x6 x7 x8 x9 || kg7 x4 x5))

def k5u (x4 : List (Int × ByteArray × Int)) (x5 : List (Int × Int)) (x6 : List Int) (x7 : List Int) (x8 : List Int) (x9 : List (Int × Int × Int)) (x10 : List Int) : Bool :=
  ltI (1048576 : Int) (↑(List.length x10) : Int) ||
  (ki x4 x5 || (km x4 x5 x6 x7 x8 x9 || kbm x6 x7 x8 x9))

def k60 (x4 : List (Int × ByteArray × Int)) (x5 : List (Int × Int)) (x6 : List Int) (x7 : List Int) (x8 : List Int) (x9 : List (Int × Int × Int)) (x10 : List Int) : Bool :=
  ltI (1048576 : Int) (↑(List.length x10) : Int) ||
  (ki x4 x5 || (km x4 x5 x6 x7 x8 x9 || leN (List.length x10) (1048576 : Nat)))

def k5r (x4 : List (Int × ByteArray × Int)) (x6 : List Int) (x7 : List Int) (x8 : List Int) (x9 : List (Int × Int × Int)) (x10 : List Int) : Bool :=
  mhNd x4 x6 x7 x8 [x10] && leN (List.length x9) (1048576 : Nat)

def k47 (x0 : Int) (x1 : Int) (x2 : Int) (x3 : Int) (x4 : List (Int × ByteArray × Int)) (x5 : List (Int × Int)) (x6 : List Int) (x7 : List Int) (x8 : List Int) (x9 : List (Int × Int × Int)) (x10 : List Int) : Bool :=
  kii (k3g x0 x1 x2 x3 x4 x5 x6 x7 x8 x9 x10) (k3g x0 x1 x2 x3 x4 x5 x6 x7 x8 x9 x10)
  (k2q x0 x1 x2 x3 x4 x5 x6 x7 x8 x9 x10) (k2r x0 x1 x2 x3 x4 x5 x6 x7 x8 x9 x10)
  (k2p x0 x1 x2 x3 x4 x5 x6 x7 x8 x9 x10) (Prod.snd (Prod.snd (Prod.snd (Prod.snd (sfM x0 x1 x2 x4 x5 x3 x6 x7 x8 x9 x10)))))
  (k2q x0 x1 x2 x3 x4 x5 x6 x7 x8 x9 x10) (k2r x0 x1 x2 x3 x4 x5 x6 x7 x8 x9 x10)
  (k2p x0 x1 x2 x3 x4 x5 x6 x7 x8 x9 x10)

def k5v (x0 : Int) (x1 : Int) (x2 : Int) (x3 : Int) (x4 : List (Int × ByteArray × Int)) (x5 : List (Int × Int)) (x6 : List Int) (x7 : List Int) (x8 : List Int) (x9 : List (Int × Int × Int)) (x10 : List Int) : Bool :=
  kku (1 : Int) (k5p x0 x1 x2 x3 x4 x5 x6 x7 x8 x9 x10)
  (k5s x0 x1 x2 x3 x4 x5 x6 x7 x8 x9 x10) (k5o x0 x1 x2 x3 x4 x5 x6 x7 x8 x9 x10)
  (k5z x0 x1 x2 x3 x4 x5 x6 x7 x8 x9 x10)

def k9o (x0 : Int) (x1 : Int) (x2 : Int) (x3 : Int) (x4 : List (Int × ByteArray × Int)) (x5 : List (Int × Int)) (x6 : List Int) (x7 : List Int) (x8 : List Int) (x9 : List (Int × Int × Int)) (x10 : List Int) : Bool :=
  bif ltI (1048576 : Int) (↑(List.length x10) : Int) then true
  else
  bif ki x4 x5 then true
  else
    bif km x4 x5 x6 x7 x8 x9 then true
    else
      bif kq x0 x1 x2 x3 x4 x5 x6 x7 x8 x9 x10 then false
      else
        bif !k1y x0 x1 x2 x0 x1 x2 x4 x5 x4 x5 then false
        else
          bif !k1i x3 x3 x6 x7 x8 x9 x6 x7 x8 x9 then false
          else
            bif !eqL x10 x10 then false
            else
              bif k1s x0 x1 x2 x3 x4 x5 x6 x7 x8 x9 x10 then false
              else
                bif k22 x0 x1 x2 x3 x4 x5 x6 x7 x8 x9 x10 then false
                else
                  bif k21 x0 x1 x2 x3 x4 x5 x6 x7 x8 x9 x10 then false
                  else
                    bif kq x0 x1 x2 x3 x4 x5 x6 x7 x8 x9 x10 then false
                    else
                      bif k22 x0 x1 x2 x3 x4 x5 x6 x7 x8 x9 x10 then false
                      else bif k21 x0 x1 x2 x3 x4 x5 x6 x7 x8 x9 x10 then false else true

def k9n (x0 : Int) (x1 : Int) (x2 : Int) (x3 : Int) (x4 : List (Int × ByteArray × Int)) (x5 : List (Int × Int)) (x6 : List Int) (x7 : List Int) (x8 : List Int) (x9 : List (Int × Int × Int)) (x10 : List Int) : Bool :=
  allT
  [ltI (1048576 : Int) (↑(List.length x10) : Int) || kt0 (1048576 : Int) x4 x5,
    ltI (1048576 : Int) (↑(List.length x10) : Int) ||
      (ki x4 x5 || koe (k8a (1048576 : Int) x4 x5) x6 x7 x8 x9),
    k5y x4 x5 x6 x7 x8 x9 x10, k5u x4 x5 x6 x7 x8 x9 x10,
    k60 x4 x5 x6 x7 x8 x9 x10,
    ltI (1048576 : Int) (↑(List.length x10) : Int) ||
      (ki x4 x5 || (km x4 x5 x6 x7 x8 x9 || mhNd x4 x6 x7 x8 [x10])),
    k5y x4 x5 x6 x7 x8 x9 x10, k5u x4 x5 x6 x7 x8 x9 x10,
    k60 x4 x5 x6 x7 x8 x9 x10,
    ltI (1048576 : Int) (↑(List.length x10) : Int) ||
      (ki x4 x5 || (km x4 x5 x6 x7 x8 x9 || k5r x4 x6 x7 x8 x9 x10)),
    ltI (1048576 : Int) (↑(List.length x10) : Int) ||
      (ki x4 x5 ||
        (km x4 x5 x6 x7 x8 x9 || k47 x0 x1 x2 x3 x4 x5 x6 x7 x8 x9 x10)),
    ltI (1048576 : Int) (↑(List.length x10) : Int) ||
      (ki x4 x5 ||
        (km x4 x5 x6 x7 x8 x9 || (kq x0 x1 x2 x3 x4 x5 x6 x7 x8 x9 x10 || kg7 x4 x5))),
    ltI (1048576 : Int) (↑(List.length x10) : Int) ||
      (ki x4 x5 ||
        (km x4 x5 x6 x7 x8 x9 ||
          (kq x0 x1 x2 x3 x4 x5 x6 x7 x8 x9 x10 || ko7 x0 x1 x2 x0 x1 x2 x4 x5 x4))),
    ltI (1048576 : Int) (↑(List.length x10) : Int) ||
      (ki x4 x5 ||
        (km x4 x5 x6 x7 x8 x9 ||
          (kq x0 x1 x2 x3 x4 x5 x6 x7 x8 x9 x10 ||
            (!k1y x0 x1 x2 x0 x1 x2 x4 x5 x4 x5 || kbm x6 x7 x8 x9)))),
    ltI (1048576 : Int) (↑(List.length x10) : Int) ||
      (ki x4 x5 ||
        (km x4 x5 x6 x7 x8 x9 ||
          (kq x0 x1 x2 x3 x4 x5 x6 x7 x8 x9 x10 ||
            (!k1y x0 x1 x2 x0 x1 x2 x4 x5 x4 x5 || kii x3 x3 x6 x7 x8 x9 x6 x7 x8)))),
    ltI (1048576 : Int) (↑(List.length x10) : Int) ||
      (ki x4 x5 ||
        (km x4 x5 x6 x7 x8 x9 ||
          (kq x0 x1 x2 x3 x4 x5 x6 x7 x8 x9 x10 ||
            (!k1y x0 x1 x2 x0 x1 x2 x4 x5 x4 x5 ||
              (!k1i x3 x3 x6 x7 x8 x9 x6 x7 x8 x9 || leN (List.length x10) (1048576 : Nat)))))),
    ltI (1048576 : Int) (↑(List.length x10) : Int) ||
      (ki x4 x5 ||
        (km x4 x5 x6 x7 x8 x9 ||
          (kq x0 x1 x2 x3 x4 x5 x6 x7 x8 x9 x10 ||
            (!k1y x0 x1 x2 x0 x1 x2 x4 x5 x4 x5 ||
              (!k1i x3 x3 x6 x7 x8 x9 x6 x7 x8 x9 || leN (List.length x10) (9223372036854775807 : Nat)))))),
    ltI (1048576 : Int) (↑(List.length x10) : Int) ||
      (ki x4 x5 ||
        (km x4 x5 x6 x7 x8 x9 ||
          (kq x0 x1 x2 x3 x4 x5 x6 x7 x8 x9 x10 ||
            (!k1y x0 x1 x2 x0 x1 x2 x4 x5 x4 x5 ||
              (!k1i x3 x3 x6 x7 x8 x9 x6 x7 x8 x9 || (!eqL x10 x10 || kph (1 : Int) x4 x5)))))),
    ltI (1048576 : Int) (↑(List.length x10) : Int) ||
      (ki x4 x5 ||
        (km x4 x5 x6 x7 x8 x9 ||
          (kq x0 x1 x2 x3 x4 x5 x6 x7 x8 x9 x10 ||
            (!k1y x0 x1 x2 x0 x1 x2 x4 x5 x4 x5 ||
              (!k1i x3 x3 x6 x7 x8 x9 x6 x7 x8 x9 ||
                (!eqL x10 x10 || kfg (k91 (1 : Int) x4 x5) x6 x7 x8 x9)))))),
    ltI (1048576 : Int) (↑(List.length x10) : Int) ||
      (ki x4 x5 ||
        (km x4 x5 x6 x7 x8 x9 ||
          (kq x0 x1 x2 x3 x4 x5 x6 x7 x8 x9 x10 ||
            (!k1y x0 x1 x2 x0 x1 x2 x4 x5 x4 x5 ||
              (!k1i x3 x3 x6 x7 x8 x9 x6 x7 x8 x9 ||
                (!eqL x10 x10 || mkOk (k5q x4 x5 x6 x7 x8 x9) (List.length x10))))))),
    ltI (1048576 : Int) (↑(List.length x10) : Int) ||
      (ki x4 x5 ||
        (km x4 x5 x6 x7 x8 x9 ||
          (kq x0 x1 x2 x3 x4 x5 x6 x7 x8 x9 x10 ||
            (!k1y x0 x1 x2 x0 x1 x2 x4 x5 x4 x5 ||
              (!k1i x3 x3 x6 x7 x8 x9 x6 x7 x8 x9 ||
                (!eqL x10 x10 ||
                  (!(!k2i x4 x5 x6 x7 x8 x9 x10 && true) ||
                    k47 x0 x1 x2 x3 x4 x5 x6 x7 x8 x9 x10))))))),
    ltI (1048576 : Int) (↑(List.length x10) : Int) ||
      (ki x4 x5 ||
        (km x4 x5 x6 x7 x8 x9 ||
          (kq x0 x1 x2 x3 x4 x5 x6 x7 x8 x9 x10 ||
            (!k1y x0 x1 x2 x0 x1 x2 x4 x5 x4 x5 ||
              (!k1i x3 x3 x6 x7 x8 x9 x6 x7 x8 x9 ||
                (!eqL x10 x10 ||
                  (k1s x0 x1 x2 x3 x4 x5 x6 x7 x8 x9 x10 ||
                    kfg (1 : Int) (k2h x0 x1 x2 x3 x4 x5 x6 x7 x8 x9 x10)
                      (k2y x0 x1 x2 x3 x4 x5 x6 x7 x8 x9 x10)
                      (k3e x0 x1 x2 x3 x4 x5 x6 x7 x8 x9 x10)
                      (k49 x0 x1 x2 x3 x4 x5 x6 x7 x8 x9 x10)))))))),
    ltI (1048576 : Int) (↑(List.length x10) : Int) ||
      (ki x4 x5 ||
        (km x4 x5 x6 x7 x8 x9 ||
          (kq x0 x1 x2 x3 x4 x5 x6 x7 x8 x9 x10 ||
            (!k1y x0 x1 x2 x0 x1 x2 x4 x5 x4 x5 ||
              (!k1i x3 x3 x6 x7 x8 x9 x6 x7 x8 x9 ||
                (!eqL x10 x10 ||
                  (k1s x0 x1 x2 x3 x4 x5 x6 x7 x8 x9 x10 ||
                    k5v x0 x1 x2 x3 x4 x5 x6 x7 x8 x9 x10))))))),
    ltI (1048576 : Int) (↑(List.length x10) : Int) ||
      (ki x4 x5 ||
        (km x4 x5 x6 x7 x8 x9 ||
          (kq x0 x1 x2 x3 x4 x5 x6 x7 x8 x9 x10 ||
            (!k1y x0 x1 x2 x0 x1 x2 x4 x5 x4 x5 ||
              (!k1i x3 x3 x6 x7 x8 x9 x6 x7 x8 x9 ||
                (!eqL x10 x10 ||
                  (k1s x0 x1 x2 x3 x4 x5 x6 x7 x8 x9 x10 ||
                    (k22 x0 x1 x2 x3 x4 x5 x6 x7 x8 x9 x10 ||
                      (k21 x0 x1 x2 x3 x4 x5 x6 x7 x8 x9 x10 || kg7 x4 x5))))))))),
    ltI (1048576 : Int) (↑(List.length x10) : Int) ||
      (ki x4 x5 ||
        (km x4 x5 x6 x7 x8 x9 ||
          (kq x0 x1 x2 x3 x4 x5 x6 x7 x8 x9 x10 ||
            (!k1y x0 x1 x2 x0 x1 x2 x4 x5 x4 x5 ||
              (!k1i x3 x3 x6 x7 x8 x9 x6 x7 x8 x9 ||
                (!eqL x10 x10 ||
                  (k1s x0 x1 x2 x3 x4 x5 x6 x7 x8 x9 x10 ||
                    (k22 x0 x1 x2 x3 x4 x5 x6 x7 x8 x9 x10 ||
                      (k21 x0 x1 x2 x3 x4 x5 x6 x7 x8 x9 x10 || kbm x6 x7 x8 x9))))))))),
    ltI (1048576 : Int) (↑(List.length x10) : Int) ||
      (ki x4 x5 ||
        (km x4 x5 x6 x7 x8 x9 ||
          (kq x0 x1 x2 x3 x4 x5 x6 x7 x8 x9 x10 ||
            (!k1y x0 x1 x2 x0 x1 x2 x4 x5 x4 x5 ||
              (!k1i x3 x3 x6 x7 x8 x9 x6 x7 x8 x9 ||
                (!eqL x10 x10 ||
                  (k1s x0 x1 x2 x3 x4 x5 x6 x7 x8 x9 x10 ||
                    (k22 x0 x1 x2 x3 x4 x5 x6 x7 x8 x9 x10 ||
                      (k21 x0 x1 x2 x3 x4 x5 x6 x7 x8 x9 x10 || leN (List.length x10) (1048576 : Nat)))))))))),
    ltI (1048576 : Int) (↑(List.length x10) : Int) ||
      (ki x4 x5 ||
        (km x4 x5 x6 x7 x8 x9 ||
          (kq x0 x1 x2 x3 x4 x5 x6 x7 x8 x9 x10 ||
            (!k1y x0 x1 x2 x0 x1 x2 x4 x5 x4 x5 ||
              (!k1i x3 x3 x6 x7 x8 x9 x6 x7 x8 x9 ||
                (!eqL x10 x10 ||
                  (k1s x0 x1 x2 x3 x4 x5 x6 x7 x8 x9 x10 ||
                    (k22 x0 x1 x2 x3 x4 x5 x6 x7 x8 x9 x10 ||
                      (k21 x0 x1 x2 x3 x4 x5 x6 x7 x8 x9 x10 || k5r x4 x6 x7 x8 x9 x10))))))))),
    ltI (1048576 : Int) (↑(List.length x10) : Int) ||
      (ki x4 x5 ||
        (km x4 x5 x6 x7 x8 x9 ||
          (kq x0 x1 x2 x3 x4 x5 x6 x7 x8 x9 x10 ||
            (!k1y x0 x1 x2 x0 x1 x2 x4 x5 x4 x5 ||
              (!k1i x3 x3 x6 x7 x8 x9 x6 x7 x8 x9 ||
                (!eqL x10 x10 ||
                  (k1s x0 x1 x2 x3 x4 x5 x6 x7 x8 x9 x10 ||
                    (k22 x0 x1 x2 x3 x4 x5 x6 x7 x8 x9 x10 ||
                      (k21 x0 x1 x2 x3 x4 x5 x6 x7 x8 x9 x10 ||
                        k47 x0 x1 x2 x3 x4 x5 x6 x7 x8 x9 x10))))))))),
    ltI (1048576 : Int) (↑(List.length x10) : Int) ||
      (ki x4 x5 ||
        (km x4 x5 x6 x7 x8 x9 ||
          (kq x0 x1 x2 x3 x4 x5 x6 x7 x8 x9 x10 ||
            (!k1y x0 x1 x2 x0 x1 x2 x4 x5 x4 x5 ||
              (!k1i x3 x3 x6 x7 x8 x9 x6 x7 x8 x9 ||
                (!eqL x10 x10 ||
                  (k1s x0 x1 x2 x3 x4 x5 x6 x7 x8 x9 x10 ||
                    (k22 x0 x1 x2 x3 x4 x5 x6 x7 x8 x9 x10 ||
                      (k21 x0 x1 x2 x3 x4 x5 x6 x7 x8 x9 x10 ||
                        (kq x0 x1 x2 x3 x4 x5 x6 x7 x8 x9 x10 ||
                          k5v x0 x1 x2 x3 x4 x5 x6 x7 x8 x9 x10))))))))))]

def kot : List SV → List Entry → Option Out
  | [.one ⟨true, [.val (.int .i64 x0), .val (.int .i64 x1), .val (.int .i64 x2), .ref 0, .ref 1]⟩, .one ⟨true, [.val (.int .i64 x3), .ref 2, .ref 3, .ref 4, .ref 5]⟩, .one ⟨false, [.ref 6]⟩], [.row false 175 (.pair (.int .i64) (.pair (.str) (.int .i64))) x4, .row false 183 (.pair (.int .i64) (.int .i64)) x5, .row false 2 (.int .i64) x6, .row false 2 (.int .i64) x7, .row false 2 (.int .i64) x8, .row false 194 (.pair (.int .i64) (.pair (.int .i64) (.int .i64))) x9, .row false 2 (.int .i64) x10] => some ⟨(.one ⟨false, [(.val (.bool (k9o x0 x1 x2 x3 x4 x5 x6 x7 x8 x9 x10)))]⟩), [(.row false 175 (CTy.pair (CTy.int IntKind.i64) (CTy.pair CTy.str (CTy.int IntKind.i64))) x4), (.row false 183 (CTy.pair (CTy.int IntKind.i64) (CTy.int IntKind.i64)) x5), (.row false 2 (CTy.int IntKind.i64) x6), (.row false 2 (CTy.int IntKind.i64) x7), (.row false 2 (CTy.int IntKind.i64) x8), (.row false 194 (CTy.pair (CTy.int IntKind.i64) (CTy.pair (CTy.int IntKind.i64) (CTy.int IntKind.i64))) x9), (.row false 2 (CTy.int IntKind.i64) x10)], [], [(k9n x0 x1 x2 x3 x4 x5 x6 x7 x8 x9 x10)]⟩
  | _, _ => none

def kv6 : PF Tryz.prog := PF.ofG Tryz.prog [kqg, PF.lend kqg, PF.fz kqg, kqf, PF.lend kqf, PF.fz kqf, kqi, PF.lend kqi, PF.fz kqi, kn8, PF.lend kn8, PF.fz kn8, kg3, PF.lend kg3, PF.fz kg3, kg4, PF.lend kg4, PF.fz kg4, kdc, PF.lend kdc, PF.fz kdc, kl1, PF.lend kl1, PF.fz kl1, kkl, PF.lend kkl, PF.fz kkl, kk6, PF.lend kk6, PF.fz kk6, khm, PF.lend khm, PF.fz khm, khn, PF.lend khn, PF.fz khn, kpt, PF.lend kpt, PF.fz kpt, kq0, PF.lend kq0, PF.fz kq0] [] hmix 7 Tryz.f7 Tryz.func7 (fun c _ => LOk.nil c) kot (by
  intro vs es r h; unfold kot at h; split at h
  · cases h; kernel_rfl
  · cases h)

end Go.SX

namespace Go.SX
open Go.Proofs
set_option maxRecDepth 100000

theorem k14s {k : Int} {bs : List TM} {st : List IN} (hb : bs.length ≤ 9223372036854775807) (hst : st.length ≤ 9223372036854775807) (hs : ∀ t ∈ bs, t.2.1.size ≤ 9223372036854775807) (h0 : -1 ≤ k) (hk : k ≤ 1048576) :
    kt0 k bs st = true ∧ (ltI (k8a k bs st) 0 = false → (0 ≤ k8a k bs st ∧ k8a k bs st ≤ k) ∧ (bs.length : Int) + totT bs + st.length + k8a k bs st = k) := by
  have t1 : leN bs.length 9223372036854775807 = true := leN_t hb
  have t2 : leN st.length 9223372036854775807 = true := leN_t hst
  have t3 : leI (-1) k = true := leI_t h0
  have t4 : leI k 1048576 = true := leI_t hk
  simp only [k8a, kt0, t1, t2, t3, t4, allT]
  cases h1 : ltI (szTs k bs) 0 with
  | true => exact ⟨rfl, fun h => absurd (show ltI (-1) 0 = false from h) (by decide)⟩
  | false =>
    obtain ⟨q1, q2⟩ := k17j hs hk h1
    have u3 : leI (-1) (szTs k bs) = true := leI_t (by omega)
    have u4 : leI (szTs k bs) 1048576 = true := leI_t (by omega)
    refine ⟨by rw [u3, u4]; rfl, fun h => ?_⟩
    simp only [cond_false] at h ⊢
    cases h2 : ltI (szL (szTs k bs) st.length) 0 with
    | true => rw [h2] at h; exact absurd (show ltI (-1) 0 = false from h) (by decide)
    | false =>
      obtain ⟨r1, r2⟩ := k11z h2
      simp only [cond_false]
      omega

theorem k167 (bs : List TM) (st : List IN) (h : (bs.length : Int) + st.length ≤ 1048576) : kph 1 bs st = true ∧ 0 ≤ k91 1 bs st ∧ k91 1 bs st ≤ 5000000 := by
  have l1 : leN bs.length 9223372036854775807 = true := leN_t (by omega)
  have l2 : leN st.length 9223372036854775807 = true := leN_t (by omega)
  have m1 : mkOk3 3 1 bs.length = true := kxj.2 (by omega)
  have m2 : mkOk3 2 (1 + 3 * (bs.length : Int)) st.length = true := kxj.2 (by omega)
  refine ⟨by simp only [kph, ko0, m1, m2, l1, l2, allT, Bool.and_self, cond_true], ?_, ?_⟩ <;> simp only [k91, ko0] <;> omega

/-- A machine that is run to its end is possible. -/
theorem k17v {i v o : Int} {bs : List TM} {st : List IN} {inp : List Int} (hC : codeB i v o bs st = true) (hin : bitsB i inp = true) : ∀ (n : Nat) (m : MS), OkS i v o bs st m → st.length - m.1.toNat = n →
    OkS i v o bs st (finM bs st inp n m) ∧ (finM bs st inp n m).1 = st.length
  | 0, m, hm, hn => ⟨hm, by
    have := hm.lo
    have := hm.hi
    show m.1 = _
    omega⟩
  | n + 1, m, hm, hn => by
    have h0 := hm.lo
    have hlt : m.1 < st.length := by omega
    have hs := (stp_ok hC hin hm hlt).1
    have he : (stpM bs st inp m).1 = m.1 + 1 := rfl
    exact k17v hC hin n _ hs (by rw [he]; omega)

theorem run_ok {i v o : Int} {bs : List TM} {st : List IN} {inp : List Int} {k : Int} {stk xs os : List Int} {ss : List BS3} (h : runNd i v o bs st inp k stk xs os ss = true) : OkS i v o bs st (fnM bs st inp k stk xs os ss) ∧ (fnM bs st inp k stk xs os ss).1 = st.length := by
  simp only [runNd, Bool.and_eq_true] at h
  exact k17v h.1 h.2.1 _ _ (mch_ok h.1 h.2.2) rfl

end Go.SX

namespace Go.SX
open Go.Proofs
set_option maxRecDepth 100000

theorem k14u {k : Int} {a b c : List Int} {d : List BS3} (ha : a.length ≤ 9223372036854775807) (hb : b.length ≤ 9223372036854775807) (hc : c.length ≤ 9223372036854775807) (hd : d.length ≤ 9223372036854775807) (h0 : -1 ≤ k) (hk : k ≤ 1048576) :
    koe k a b c d = true ∧ (ltI (kem k a b c d) 0 = false → (a.length : Int) + b.length + c.length + d.length + kem k a b c d = k ∧ 0 ≤ kem k a b c d) := by
  have n1 : leN a.length 9223372036854775807 = true := leN_t ha
  have n2 : leN b.length 9223372036854775807 = true := leN_t hb
  have n3 : leN c.length 9223372036854775807 = true := leN_t hc
  have n4 : leN d.length 9223372036854775807 = true := leN_t hd
  have e : ∀ (k : Int) (l : List Int), szV k l = szL k l.length := fun _ _ => rfl
  have t3 : leI (-1) k = true := leI_t h0
  have t4 : leI k 1048576 = true := leI_t hk
  simp only [kem, koe, kt5, kte, n1, n2, n3, n4, t3, t4, e, allT]
  cases h1 : ltI (szL k a.length) 0 with
  | true => exact ⟨rfl, fun h => absurd (show ltI (-1) 0 = false from h) (by decide)⟩
  | false =>
    obtain ⟨q1, q2⟩ := k11z h1
    have u1 : leI (-1) (szL k a.length) = true := leI_t (by omega)
    have u2 : leI (szL k a.length) 1048576 = true := leI_t (by omega)
    rw [u1, u2]
    cases h2 : ltI (szL (szL k a.length) b.length) 0 with
    | true => exact ⟨rfl, fun h => absurd (show ltI (-1) 0 = false from h) (by decide)⟩
    | false =>
      obtain ⟨r1, r2⟩ := k11z h2
      have u3 : leI (-1) (szL (szL k a.length) b.length) = true := leI_t (by omega)
      have u4 : leI (szL (szL k a.length) b.length) 1048576 = true := leI_t (by omega)
      rw [u3, u4]
      cases h3 : ltI (szL (szL (szL k a.length) b.length) c.length) 0 with
      | true => exact ⟨rfl, fun h => absurd (show ltI (-1) 0 = false from h) (by decide)⟩
      | false =>
        obtain ⟨p1, p2⟩ := k11z h3
        have u5 : leI (-1) (szL (szL (szL k a.length) b.length) c.length) = true := leI_t (by omega)
        have u6 : leI (szL (szL (szL k a.length) b.length) c.length) 1048576 = true := leI_t (by omega)
        rw [u5, u6]
        refine ⟨rfl, fun h => ?_⟩
        simp only [cond_false] at h ⊢
        cases h4 : ltI (szL (szL (szL (szL k a.length) b.length) c.length) d.length) 0 with
        | true => rw [h4] at h; exact absurd (show ltI (-1) 0 = false from h) (by decide)
        | false =>
          obtain ⟨s1, s2⟩ := k11z h4
          simp only [cond_false]
          omega

/-- A machine's slices marked, and found as they were marked. -/
theorem kv9 (k : Int) (a b c : List Int) (d : List BS3) (h0 : 0 ≤ k) (h : k + a.length + b.length + c.length + 3 * (d.length : Int) ≤ 900000000) :
    kfg k a b c d = true ∧ ltI (k4e k a b c d) 0 = false ∧
    kkh k (kfw k a) (kfp k a b) (kfn k a b c) (kfk k a b c d) = k4e k a b c d ∧
    kku k (kfw k a) (kfp k a b) (kfn k a b c) (kfk k a b c d) = true ∧
    k4e k a b c d = k + a.length + b.length + c.length + 3 * (d.length : Int) := by
  have m1 : mkOk k a.length = true := k10v.2 (by omega)
  have m2 : mkOk (k + (a.length : Int)) b.length = true := k10v.2 (by omega)
  have m3 : mkOk (k + (a.length : Int) + b.length) c.length = true := k10v.2 (by omega)
  have m4 : mkOk3 3 (k + (a.length : Int) + b.length + c.length) d.length = true := kxj.2 (by omega)
  have l1 : leN a.length 9223372036854775807 = true := leN_t (by omega)
  have l2 : leN b.length 9223372036854775807 = true := leN_t (by omega)
  have l3 : leN c.length 9223372036854775807 = true := leN_t (by omega)
  have l4 : leN d.length 9223372036854775807 = true := leN_t (by omega)
  have v1 := k16j k a.length m1
  have v2 := k16j _ b.length m2
  have v3 := k16j _ c.length m3
  have v4 := k187 _ d.length ((Bool.and_eq_true _ _).mpr ⟨m4, l4⟩)
  have t1 : ltI (k + (a.length : Int)) 0 = false := ltI_f (by omega)
  have t2 : ltI (k + (a.length : Int) + b.length) 0 = false := ltI_f (by omega)
  have t3 : ltI (k + (a.length : Int) + b.length + c.length) 0 = false := ltI_f (by omega)
  have t4 : ltI (k + (a.length : Int) + b.length + c.length + 3 * (d.length : Int)) 0 = false := ltI_f (by omega)
  refine ⟨?_, ?_, ?_, ?_, ?_⟩
  · simp only [kfg, kce, kcc, kcf, m1, m2, m3, m4, l4, allT, Bool.and_self, cond_true]
  · simp only [k4e, kce, kcc, kcf, t4]
  · simp only [kkh, knj, k4e, kfw, kfp, kfn, kfk, kce, kcc, kcf, v1, v2, v3, v4, t1, t2, t3, t4, cond_false]
  · simp only [kku, knj, kfw, kfp, kfn, kfk, kce, kcc, kcf, v1, v2, v3, t1, t2, t3, upFrom_length, k164, l1, l2, l3, l4, allT, Bool.or_true, cond_true]
  · simp only [k4e, kce, kcc, kcf]

theorem ktt (k : Int) (a b c : List Int) (d : List BS3) (h1 : a.length ≤ 9223372036854775807) (h2 : b.length ≤ 9223372036854775807) (h3 : c.length ≤ 9223372036854775807) (h4 : d.length ≤ 9223372036854775807) :
    k1i k k a b c d a b c d = true ∧ kii k k a b c d a b c = true := by
  simp [k1i, kii, k16f, k17p, allT, h1, h2, h3, h4]

theorem ss_len (i v o : Int) (bs : List TM) (st : List IN) (k : Int) (stk xs os : List Int) (ss : List BS3) (inp : List Int) :
    (ssM i v o bs st k stk xs os ss inp).2.1.length ≤ 40 ∧ (ssM i v o bs st k stk xs os ss inp).2.2.1.length ≤ 20 ∧ (ssM i v o bs st k stk xs os ss inp).2.2.2.1.length ≤ 20 ∧ (ssM i v o bs st k stk xs os ss inp).2.2.2.2.length ≤ 2000 := by
  simp only [ssM]
  by_cases hz : ssCode i v o bs st k stk xs os ss inp = 0
  · obtain ⟨_, _, h4⟩ := k17a hz
    obtain ⟨hC, hin, hm, hlt, _⟩ := k16a h4
    have := ok_len hC (stp_ok (m := (k, stk, xs, os, ss)) hC hin hm hlt).1
    simpa [hz, stM] using this
  · have : (ssCode i v o bs st k stk xs os ss inp == 0) = false := by simpa using hz
    simp [this, m0]

theorem sf_len (i v o : Int) (bs : List TM) (st : List IN) (k : Int) (stk xs os : List Int) (ss : List BS3) (inp : List Int) :
    (sfM i v o bs st k stk xs os ss inp).2.1.length ≤ 40 ∧ (sfM i v o bs st k stk xs os ss inp).2.2.1.length ≤ 20 ∧ (sfM i v o bs st k stk xs os ss inp).2.2.2.1.length ≤ 20 ∧ (sfM i v o bs st k stk xs os ss inp).2.2.2.2.length ≤ 2000 := by
  simp only [sfM]
  by_cases hz : mhCode i v o bs st k stk xs os ss [inp] = 0
  · have hr := mh_ok hz
    have h := hr
    simp only [runNd, Bool.and_eq_true] at h
    have := ok_len h.1 (run_ok hr).1
    simpa [hz] using this
  · have : (mhCode i v o bs st k stk xs os ss [inp] == 0) = false := by simpa using hz
    simp [this, m0]

end Go.SX

namespace Go.SX
open Go.Proofs
set_option maxRecDepth 100000

theorem k14x (x0 x1 x2 : Int) (x4 : List TM) (x5 : List IN) (x3 : Int) (x6 x7 x8 : List Int) (x9 : List BS3) (x10 : List Int) (w4 : wfD (.sl 22 (.pair (.int .i64) (.pair (.str) (.int .i64)))) x4) (w5 : wfD (.sl 23 (.pair (.int .i64) (.int .i64))) x5) (w6 : wfD (.sl 2 (.int .i64)) x6) (w7 : wfD (.sl 2 (.int .i64)) x7) (w8 : wfD (.sl 2 (.int .i64)) x8) (w9 : wfD (.sl 42 (.pair (.int .i64) (.pair (.int .i64) (.int .i64)))) x9) (w10 : wfD (.sl 2 (.int .i64)) x10) :
    kb9 x0 x1 x2 x3 x4 x5 x6 x7 x8 x9 x10 = true ∧ kba x0 x1 x2 x3 x4 x5 x6 x7 x8 x9 x10 = true := by
  have l4 : x4.length ≤ 9223372036854775807 := w4.1
  have l5 : x5.length ≤ 9223372036854775807 := w5.1
  have l6 : x6.length ≤ 9223372036854775807 := w6.1
  have l7 : x7.length ≤ 9223372036854775807 := w7.1
  have l8 : x8.length ≤ 9223372036854775807 := w8.1
  have l9 : x9.length ≤ 9223372036854775807 := w9.1
  have l10 : x10.length ≤ 9223372036854775807 := w10.1
  have hs : ∀ t ∈ x4, t.2.1.size ≤ 9223372036854775807 := fun t ht => (w4.2 t ht).2.1
  cases h10 : ltI 1048576 (x10.length : Int) with
  | true => simp [kb9, kba, k4l, k34, k37, k36, k7p, k7q, kx, k7y, k2w, k23, k2x, k77, k38, k76, k3w, k73, k5d, k75, k7b, k2a, k28, k72, k74, k7a, k78, k5a, k79, h10, allT]
  | false =>
    have h10' : x10.length ≤ 1048576 := by
      rcases Nat.lt_or_ge 1048576 x10.length with h | h
      · rw [ltI_t (by omega)] at h10; cases h10
      · exact h
    have t10 : ltI 1048576 (x10.length : Int) = false := h10
    obtain ⟨s1, s2⟩ := k14s (k := 1048576) l4 l5 hs (by omega) (by omega)
    cases h1 : ltI (k8a 1048576 x4 x5) 0 with
    | true => simp [kb9, kba, kn, k4l, k34, k37, k36, k7p, k7q, kx, k7y, k2w, k23, k2x, k77, k38, k76, k3w, k73, k5d, k75, k7b, k2a, k28, k72, k74, k7a, k78, k5a, k79, h1, h10, s1, allT]
    | false =>
      obtain ⟨⟨c0, c1⟩, c2⟩ := s2 h1
      obtain ⟨u1, u2⟩ := k14u (k := k8a 1048576 x4 x5) l6 l7 l8 l9 (by omega) c1
      cases h2 : ltI (kem (k8a 1048576 x4 x5) x6 x7 x8 x9) 0 with
      | true => simp [kb9, kba, kn, kt, k4l, k34, k37, k36, k7p, k7q, kx, k7y, k2w, k23, k2x, k77, k38, k76, k3w, k73, k5d, k75, k7b, k2a, k28, k72, k74, k7a, k78, k5a, k79, h1, h2, h10, s1, u1, allT]
      | false =>
        obtain ⟨d2, d0⟩ := u2 h2
        have r0 := h1
        have r1 := h2
        have k4 : leN x4.length 1048576 = true := leN_t (by omega)
        have k5 : leN x5.length 1048576 = true := leN_t (by omega)
        have k6 : leN x6.length 1048576 = true := leN_t (by omega)
        have k7 : leN x7.length 1048576 = true := leN_t (by omega)
        have k8 : leN x8.length 1048576 = true := leN_t (by omega)
        have k9 : leN x9.length 1048576 = true := leN_t (by omega)
        have k10 : leN x10.length 1048576 = true := leN_t (by omega)
        have m4 : leN x4.length 9223372036854775807 = true := leN_t l4
        have m5 : leN x5.length 9223372036854775807 = true := leN_t l5
        have m10 : leN x10.length 9223372036854775807 = true := leN_t l10
        have hS1 : mhNd x4 x6 x7 x8 [x10] = true := by simp only [mhNd, listNd, k6, k7, k8, m10, k16h.2 ⟨l4, hs⟩, List.all_cons, List.all_nil, Bool.and_true, Bool.true_and, List.length_singleton]; rfl
        have hS2 : (mhNd x4 x6 x7 x8 [x10] && leN x9.length 1048576) = true := by rw [hS1, k9]; rfl
        obtain ⟨n1, n2, n3, n4⟩ := ss_len x0 x1 x2 x4 x5 x3 x6 x7 x8 x9 x10
        generalize hM : ssM x0 x1 x2 x4 x5 x3 x6 x7 x8 x9 x10 = M at n1 n2 n3 n4
        obtain ⟨mk, A, B, C, D⟩ := M
        simp only at n1 n2 n3 n4
        obtain ⟨e1, e2⟩ := ktt mk A B C D (by omega) (by omega) (by omega) (by omega)
        obtain ⟨g1, g2, g3⟩ := k167 x4 x5 (by omega)
        obtain ⟨g4, _, _, _, g5⟩ := kv9 (k91 1 x4 x5) x6 x7 x8 x9 g2 (by omega)
        obtain ⟨q1, q2, q3, q4, _⟩ := kv9 1 A B C D (by omega) (by omega)
        have f1 : k1y x0 x1 x2 x0 x1 x2 x4 x5 x4 x5 = true := by simp [k1y, k148, k16m]
        have f2 : ko7 x0 x1 x2 x0 x1 x2 x4 x5 x4 = true := by simp [ko7, k148, m4, m5, allT]
        obtain ⟨f3, f4⟩ := ktt x3 x6 x7 x8 x9 l6 l7 l8 l9
        have f5 : kg7 x4 x5 = true := by simp only [kg7, k4, k5, allT, cond_true]
        have f6 : kbm x6 x7 x8 x9 = true := by simp only [kbm, k6, k7, k8, k9, allT, cond_true]
        have f7 : eqL x10 x10 = true := k16f x10
        have g6 : mkOk (k4e (k91 1 x4 x5) x6 x7 x8 x9) x10.length = true := k10v.2 (by rw [g5]; omega)
        have g7 : ltI (k4e (k91 1 x4 x5) x6 x7 x8 x9 + (x10.length : Int)) 0 = false := ltI_f (by rw [g5]; omega)
        have f8 := f1
        have f9 := f3
        have f10 := f7
        have nA : leN A.length 9223372036854775807 = true := leN_t (by omega)
        have nB : leN B.length 9223372036854775807 = true := leN_t (by omega)
        have nC : leN C.length 9223372036854775807 = true := leN_t (by omega)
        have nD : leN D.length 9223372036854775807 = true := leN_t (by omega)
        have mE := m10
        have r_a0 := Eq.refl (kn x4 x5)
        conv at r_a0 => rhs; simp only [kn, cond_true, cond_false, Bool.cond_self, Bool.not_true, Bool.not_false, Bool.true_or, Bool.or_true, Bool.false_or, Bool.or_false, Bool.and_self, Bool.and_true, Bool.true_and, Bool.false_and, Bool.and_false, bne_self_eq_false, beq_self_eq_true, allT, t10, r0, r1, f1, f2, f3, f4, f5, f6, f7, f8, f9, f10, hS1, hS2, s1, u1, g1, g4, g6, g7, k10, m10, e1, e2, q1, q2, q3, q4, nA, nB, nC, nD, mE, k9, hM]
        have r_a1 := Eq.refl (kt x4 x5 x6 x7 x8 x9)
        conv at r_a1 => rhs; simp only [kt, cond_true, cond_false, Bool.cond_self, Bool.not_true, Bool.not_false, Bool.true_or, Bool.or_true, Bool.false_or, Bool.or_false, Bool.and_self, Bool.and_true, Bool.true_and, Bool.false_and, Bool.and_false, bne_self_eq_false, beq_self_eq_true, allT, t10, r0, r1, f1, f2, f3, f4, f5, f6, f7, f8, f9, f10, hS1, hS2, s1, u1, g1, g4, g6, g7, k10, m10, e1, e2, q1, q2, q3, q4, nA, nB, nC, nD, mE, k9, hM, r_a0]
        have r_a2 := Eq.refl (k4l x0 x1 x2 x3 x4 x5 x6 x7 x8 x9 x10)
        conv at r_a2 => rhs; simp only [k4l, cond_true, cond_false, Bool.cond_self, Bool.not_true, Bool.not_false, Bool.true_or, Bool.or_true, Bool.false_or, Bool.or_false, Bool.and_self, Bool.and_true, Bool.true_and, Bool.false_and, Bool.and_false, bne_self_eq_false, beq_self_eq_true, allT, t10, r0, r1, f1, f2, f3, f4, f5, f6, f7, f8, f9, f10, hS1, hS2, s1, u1, g1, g4, g6, g7, k10, m10, e1, e2, q1, q2, q3, q4, nA, nB, nC, nD, mE, k9, hM, r_a0, r_a1]
        have r_a3 := Eq.refl (k34 x0 x1 x2 x3 x4 x5 x6 x7 x8 x9 x10)
        conv at r_a3 => rhs; simp only [k34, cond_true, cond_false, Bool.cond_self, Bool.not_true, Bool.not_false, Bool.true_or, Bool.or_true, Bool.false_or, Bool.or_false, Bool.and_self, Bool.and_true, Bool.true_and, Bool.false_and, Bool.and_false, bne_self_eq_false, beq_self_eq_true, allT, t10, r0, r1, f1, f2, f3, f4, f5, f6, f7, f8, f9, f10, hS1, hS2, s1, u1, g1, g4, g6, g7, k10, m10, e1, e2, q1, q2, q3, q4, nA, nB, nC, nD, mE, k9, hM, r_a0, r_a1, r_a2]
        have r_a4 := Eq.refl (k37 x0 x1 x2 x3 x4 x5 x6 x7 x8 x9 x10)
        conv at r_a4 => rhs; simp only [k37, cond_true, cond_false, Bool.cond_self, Bool.not_true, Bool.not_false, Bool.true_or, Bool.or_true, Bool.false_or, Bool.or_false, Bool.and_self, Bool.and_true, Bool.true_and, Bool.false_and, Bool.and_false, bne_self_eq_false, beq_self_eq_true, allT, t10, r0, r1, f1, f2, f3, f4, f5, f6, f7, f8, f9, f10, hS1, hS2, s1, u1, g1, g4, g6, g7, k10, m10, e1, e2, q1, q2, q3, q4, nA, nB, nC, nD, mE, k9, hM, r_a0, r_a1, r_a2, r_a3]
        have r_a5 := Eq.refl (k36 x0 x1 x2 x3 x4 x5 x6 x7 x8 x9 x10)
        conv at r_a5 => rhs; simp only [k36, cond_true, cond_false, Bool.cond_self, Bool.not_true, Bool.not_false, Bool.true_or, Bool.or_true, Bool.false_or, Bool.or_false, Bool.and_self, Bool.and_true, Bool.true_and, Bool.false_and, Bool.and_false, bne_self_eq_false, beq_self_eq_true, allT, t10, r0, r1, f1, f2, f3, f4, f5, f6, f7, f8, f9, f10, hS1, hS2, s1, u1, g1, g4, g6, g7, k10, m10, e1, e2, q1, q2, q3, q4, nA, nB, nC, nD, mE, k9, hM, r_a0, r_a1, r_a2, r_a3, r_a4]
        have r_a6 := Eq.refl (k7p x0 x1 x2 x3 x4 x5 x6 x7 x8 x9 x10)
        conv at r_a6 => rhs; simp only [k7p, cond_true, cond_false, Bool.cond_self, Bool.not_true, Bool.not_false, Bool.true_or, Bool.or_true, Bool.false_or, Bool.or_false, Bool.and_self, Bool.and_true, Bool.true_and, Bool.false_and, Bool.and_false, bne_self_eq_false, beq_self_eq_true, allT, t10, r0, r1, f1, f2, f3, f4, f5, f6, f7, f8, f9, f10, hS1, hS2, s1, u1, g1, g4, g6, g7, k10, m10, e1, e2, q1, q2, q3, q4, nA, nB, nC, nD, mE, k9, hM, r_a0, r_a1, r_a2, r_a3, r_a4, r_a5]
        have r_a7 := Eq.refl (k7q x0 x1 x2 x3 x4 x5 x6 x7 x8 x9 x10)
        conv at r_a7 => rhs; simp only [k7q, cond_true, cond_false, Bool.cond_self, Bool.not_true, Bool.not_false, Bool.true_or, Bool.or_true, Bool.false_or, Bool.or_false, Bool.and_self, Bool.and_true, Bool.true_and, Bool.false_and, Bool.and_false, bne_self_eq_false, beq_self_eq_true, allT, t10, r0, r1, f1, f2, f3, f4, f5, f6, f7, f8, f9, f10, hS1, hS2, s1, u1, g1, g4, g6, g7, k10, m10, e1, e2, q1, q2, q3, q4, nA, nB, nC, nD, mE, k9, hM, r_a0, r_a1, r_a2, r_a3, r_a4, r_a5, r_a6]
        have r_a8 := Eq.refl (kx x0 x1 x2 x3 x4 x5 x6 x7 x8 x9 x10)
        conv at r_a8 => rhs; simp only [kx, cond_true, cond_false, Bool.cond_self, Bool.not_true, Bool.not_false, Bool.true_or, Bool.or_true, Bool.false_or, Bool.or_false, Bool.and_self, Bool.and_true, Bool.true_and, Bool.false_and, Bool.and_false, bne_self_eq_false, beq_self_eq_true, allT, t10, r0, r1, f1, f2, f3, f4, f5, f6, f7, f8, f9, f10, hS1, hS2, s1, u1, g1, g4, g6, g7, k10, m10, e1, e2, q1, q2, q3, q4, nA, nB, nC, nD, mE, k9, hM, r_a0, r_a1, r_a2, r_a3, r_a4, r_a5, r_a6, r_a7]
        have r_a9 := Eq.refl (k7y x4 x5 x6 x7 x8 x9)
        conv at r_a9 => rhs; simp only [k7y, cond_true, cond_false, Bool.cond_self, Bool.not_true, Bool.not_false, Bool.true_or, Bool.or_true, Bool.false_or, Bool.or_false, Bool.and_self, Bool.and_true, Bool.true_and, Bool.false_and, Bool.and_false, bne_self_eq_false, beq_self_eq_true, allT, t10, r0, r1, f1, f2, f3, f4, f5, f6, f7, f8, f9, f10, hS1, hS2, s1, u1, g1, g4, g6, g7, k10, m10, e1, e2, q1, q2, q3, q4, nA, nB, nC, nD, mE, k9, hM, r_a0, r_a1, r_a2, r_a3, r_a4, r_a5, r_a6, r_a7, r_a8]
        have r_a10 := Eq.refl (k2w x4 x5 x6 x7 x8 x9 x10)
        conv at r_a10 => rhs; simp only [k2w, cond_true, cond_false, Bool.cond_self, Bool.not_true, Bool.not_false, Bool.true_or, Bool.or_true, Bool.false_or, Bool.or_false, Bool.and_self, Bool.and_true, Bool.true_and, Bool.false_and, Bool.and_false, bne_self_eq_false, beq_self_eq_true, allT, t10, r0, r1, f1, f2, f3, f4, f5, f6, f7, f8, f9, f10, hS1, hS2, s1, u1, g1, g4, g6, g7, k10, m10, e1, e2, q1, q2, q3, q4, nA, nB, nC, nD, mE, k9, hM, r_a0, r_a1, r_a2, r_a3, r_a4, r_a5, r_a6, r_a7, r_a8, r_a9]
        have r_a11 := Eq.refl (k23 x0 x1 x2 x3 x4 x5 x6 x7 x8 x9 x10)
        conv at r_a11 => rhs; simp only [k23, cond_true, cond_false, Bool.cond_self, Bool.not_true, Bool.not_false, Bool.true_or, Bool.or_true, Bool.false_or, Bool.or_false, Bool.and_self, Bool.and_true, Bool.true_and, Bool.false_and, Bool.and_false, bne_self_eq_false, beq_self_eq_true, allT, t10, r0, r1, f1, f2, f3, f4, f5, f6, f7, f8, f9, f10, hS1, hS2, s1, u1, g1, g4, g6, g7, k10, m10, e1, e2, q1, q2, q3, q4, nA, nB, nC, nD, mE, k9, hM, r_a0, r_a1, r_a2, r_a3, r_a4, r_a5, r_a6, r_a7, r_a8, r_a9, r_a10]
        have r_a12 := Eq.refl (k2x x0 x1 x2 x3 x4 x5 x6 x7 x8 x9 x10)
        conv at r_a12 => rhs; simp only [k2x, cond_true, cond_false, Bool.cond_self, Bool.not_true, Bool.not_false, Bool.true_or, Bool.or_true, Bool.false_or, Bool.or_false, Bool.and_self, Bool.and_true, Bool.true_and, Bool.false_and, Bool.and_false, bne_self_eq_false, beq_self_eq_true, allT, t10, r0, r1, f1, f2, f3, f4, f5, f6, f7, f8, f9, f10, hS1, hS2, s1, u1, g1, g4, g6, g7, k10, m10, e1, e2, q1, q2, q3, q4, nA, nB, nC, nD, mE, k9, hM, r_a0, r_a1, r_a2, r_a3, r_a4, r_a5, r_a6, r_a7, r_a8, r_a9, r_a10, r_a11]
        have r_a13 := Eq.refl (k77 x0 x1 x2 x3 x4 x5 x6 x7 x8 x9 x10)
        conv at r_a13 => rhs; simp only [k77, cond_true, cond_false, Bool.cond_self, Bool.not_true, Bool.not_false, Bool.true_or, Bool.or_true, Bool.false_or, Bool.or_false, Bool.and_self, Bool.and_true, Bool.true_and, Bool.false_and, Bool.and_false, bne_self_eq_false, beq_self_eq_true, allT, t10, r0, r1, f1, f2, f3, f4, f5, f6, f7, f8, f9, f10, hS1, hS2, s1, u1, g1, g4, g6, g7, k10, m10, e1, e2, q1, q2, q3, q4, nA, nB, nC, nD, mE, k9, hM, r_a0, r_a1, r_a2, r_a3, r_a4, r_a5, r_a6, r_a7, r_a8, r_a9, r_a10, r_a11, r_a12]
        have r_a14 := Eq.refl (k38 x0 x1 x2 x3 x4 x5 x6 x7 x8 x9 x10)
        conv at r_a14 => rhs; simp only [k38, cond_true, cond_false, Bool.cond_self, Bool.not_true, Bool.not_false, Bool.true_or, Bool.or_true, Bool.false_or, Bool.or_false, Bool.and_self, Bool.and_true, Bool.true_and, Bool.false_and, Bool.and_false, bne_self_eq_false, beq_self_eq_true, allT, t10, r0, r1, f1, f2, f3, f4, f5, f6, f7, f8, f9, f10, hS1, hS2, s1, u1, g1, g4, g6, g7, k10, m10, e1, e2, q1, q2, q3, q4, nA, nB, nC, nD, mE, k9, hM, r_a0, r_a1, r_a2, r_a3, r_a4, r_a5, r_a6, r_a7, r_a8, r_a9, r_a10, r_a11, r_a12, r_a13]
        have r_a15 := Eq.refl (k76 x0 x1 x2 x3 x4 x5 x6 x7 x8 x9 x10)
        conv at r_a15 => rhs; simp only [k76, cond_true, cond_false, Bool.cond_self, Bool.not_true, Bool.not_false, Bool.true_or, Bool.or_true, Bool.false_or, Bool.or_false, Bool.and_self, Bool.and_true, Bool.true_and, Bool.false_and, Bool.and_false, bne_self_eq_false, beq_self_eq_true, allT, t10, r0, r1, f1, f2, f3, f4, f5, f6, f7, f8, f9, f10, hS1, hS2, s1, u1, g1, g4, g6, g7, k10, m10, e1, e2, q1, q2, q3, q4, nA, nB, nC, nD, mE, k9, hM, r_a0, r_a1, r_a2, r_a3, r_a4, r_a5, r_a6, r_a7, r_a8, r_a9, r_a10, r_a11, r_a12, r_a13, r_a14]
        have r_a16 := Eq.refl (k3w x0 x1 x2 x3 x4 x5 x6 x7 x8 x9 x10)
        conv at r_a16 => rhs; simp only [k3w, cond_true, cond_false, Bool.cond_self, Bool.not_true, Bool.not_false, Bool.true_or, Bool.or_true, Bool.false_or, Bool.or_false, Bool.and_self, Bool.and_true, Bool.true_and, Bool.false_and, Bool.and_false, bne_self_eq_false, beq_self_eq_true, allT, t10, r0, r1, f1, f2, f3, f4, f5, f6, f7, f8, f9, f10, hS1, hS2, s1, u1, g1, g4, g6, g7, k10, m10, e1, e2, q1, q2, q3, q4, nA, nB, nC, nD, mE, k9, hM, r_a0, r_a1, r_a2, r_a3, r_a4, r_a5, r_a6, r_a7, r_a8, r_a9, r_a10, r_a11, r_a12, r_a13, r_a14, r_a15]
        have r_a17 := Eq.refl (k73 x0 x1 x2 x3 x4 x5 x6 x7 x8 x9 x10)
        conv at r_a17 => rhs; simp only [k73, cond_true, cond_false, Bool.cond_self, Bool.not_true, Bool.not_false, Bool.true_or, Bool.or_true, Bool.false_or, Bool.or_false, Bool.and_self, Bool.and_true, Bool.true_and, Bool.false_and, Bool.and_false, bne_self_eq_false, beq_self_eq_true, allT, t10, r0, r1, f1, f2, f3, f4, f5, f6, f7, f8, f9, f10, hS1, hS2, s1, u1, g1, g4, g6, g7, k10, m10, e1, e2, q1, q2, q3, q4, nA, nB, nC, nD, mE, k9, hM, r_a0, r_a1, r_a2, r_a3, r_a4, r_a5, r_a6, r_a7, r_a8, r_a9, r_a10, r_a11, r_a12, r_a13, r_a14, r_a15, r_a16]
        have r_a18 := Eq.refl (k5d x0 x1 x2 x3 x4 x5 x6 x7 x8 x9 x10)
        conv at r_a18 => rhs; simp only [k5d, cond_true, cond_false, Bool.cond_self, Bool.not_true, Bool.not_false, Bool.true_or, Bool.or_true, Bool.false_or, Bool.or_false, Bool.and_self, Bool.and_true, Bool.true_and, Bool.false_and, Bool.and_false, bne_self_eq_false, beq_self_eq_true, allT, t10, r0, r1, f1, f2, f3, f4, f5, f6, f7, f8, f9, f10, hS1, hS2, s1, u1, g1, g4, g6, g7, k10, m10, e1, e2, q1, q2, q3, q4, nA, nB, nC, nD, mE, k9, hM, r_a0, r_a1, r_a2, r_a3, r_a4, r_a5, r_a6, r_a7, r_a8, r_a9, r_a10, r_a11, r_a12, r_a13, r_a14, r_a15, r_a16, r_a17]
        have r_a19 := Eq.refl (k75 x0 x1 x2 x3 x4 x5 x6 x7 x8 x9 x10)
        conv at r_a19 => rhs; simp only [k75, cond_true, cond_false, Bool.cond_self, Bool.not_true, Bool.not_false, Bool.true_or, Bool.or_true, Bool.false_or, Bool.or_false, Bool.and_self, Bool.and_true, Bool.true_and, Bool.false_and, Bool.and_false, bne_self_eq_false, beq_self_eq_true, allT, t10, r0, r1, f1, f2, f3, f4, f5, f6, f7, f8, f9, f10, hS1, hS2, s1, u1, g1, g4, g6, g7, k10, m10, e1, e2, q1, q2, q3, q4, nA, nB, nC, nD, mE, k9, hM, r_a0, r_a1, r_a2, r_a3, r_a4, r_a5, r_a6, r_a7, r_a8, r_a9, r_a10, r_a11, r_a12, r_a13, r_a14, r_a15, r_a16, r_a17, r_a18]
        have r_a20 := Eq.refl (k7b x0 x1 x2 x3 x4 x5 x6 x7 x8 x9 x10)
        conv at r_a20 => rhs; simp only [k7b, cond_true, cond_false, Bool.cond_self, Bool.not_true, Bool.not_false, Bool.true_or, Bool.or_true, Bool.false_or, Bool.or_false, Bool.and_self, Bool.and_true, Bool.true_and, Bool.false_and, Bool.and_false, bne_self_eq_false, beq_self_eq_true, allT, t10, r0, r1, f1, f2, f3, f4, f5, f6, f7, f8, f9, f10, hS1, hS2, s1, u1, g1, g4, g6, g7, k10, m10, e1, e2, q1, q2, q3, q4, nA, nB, nC, nD, mE, k9, hM, r_a0, r_a1, r_a2, r_a3, r_a4, r_a5, r_a6, r_a7, r_a8, r_a9, r_a10, r_a11, r_a12, r_a13, r_a14, r_a15, r_a16, r_a17, r_a18, r_a19]
        have r_a21 := Eq.refl (k2a x0 x1 x2 x3 x4 x5 x6 x7 x8 x9 x10)
        conv at r_a21 => rhs; simp only [k2a, cond_true, cond_false, Bool.cond_self, Bool.not_true, Bool.not_false, Bool.true_or, Bool.or_true, Bool.false_or, Bool.or_false, Bool.and_self, Bool.and_true, Bool.true_and, Bool.false_and, Bool.and_false, bne_self_eq_false, beq_self_eq_true, allT, t10, r0, r1, f1, f2, f3, f4, f5, f6, f7, f8, f9, f10, hS1, hS2, s1, u1, g1, g4, g6, g7, k10, m10, e1, e2, q1, q2, q3, q4, nA, nB, nC, nD, mE, k9, hM, r_a0, r_a1, r_a2, r_a3, r_a4, r_a5, r_a6, r_a7, r_a8, r_a9, r_a10, r_a11, r_a12, r_a13, r_a14, r_a15, r_a16, r_a17, r_a18, r_a19, r_a20]
        have r_a22 := Eq.refl (k28 x0 x1 x2 x3 x4 x5 x6 x7 x8 x9 x10)
        conv at r_a22 => rhs; simp only [k28, cond_true, cond_false, Bool.cond_self, Bool.not_true, Bool.not_false, Bool.true_or, Bool.or_true, Bool.false_or, Bool.or_false, Bool.and_self, Bool.and_true, Bool.true_and, Bool.false_and, Bool.and_false, bne_self_eq_false, beq_self_eq_true, allT, t10, r0, r1, f1, f2, f3, f4, f5, f6, f7, f8, f9, f10, hS1, hS2, s1, u1, g1, g4, g6, g7, k10, m10, e1, e2, q1, q2, q3, q4, nA, nB, nC, nD, mE, k9, hM, r_a0, r_a1, r_a2, r_a3, r_a4, r_a5, r_a6, r_a7, r_a8, r_a9, r_a10, r_a11, r_a12, r_a13, r_a14, r_a15, r_a16, r_a17, r_a18, r_a19, r_a20, r_a21]
        have r_a23 := Eq.refl (k72 x4 x5 x6 x7 x8 x9 x10)
        conv at r_a23 => rhs; simp only [k72, cond_true, cond_false, Bool.cond_self, Bool.not_true, Bool.not_false, Bool.true_or, Bool.or_true, Bool.false_or, Bool.or_false, Bool.and_self, Bool.and_true, Bool.true_and, Bool.false_and, Bool.and_false, bne_self_eq_false, beq_self_eq_true, allT, t10, r0, r1, f1, f2, f3, f4, f5, f6, f7, f8, f9, f10, hS1, hS2, s1, u1, g1, g4, g6, g7, k10, m10, e1, e2, q1, q2, q3, q4, nA, nB, nC, nD, mE, k9, hM, r_a0, r_a1, r_a2, r_a3, r_a4, r_a5, r_a6, r_a7, r_a8, r_a9, r_a10, r_a11, r_a12, r_a13, r_a14, r_a15, r_a16, r_a17, r_a18, r_a19, r_a20, r_a21, r_a22]
        have r_a24 := Eq.refl (k74 x4 x5 x6 x7 x8 x9 x10)
        conv at r_a24 => rhs; simp only [k74, cond_true, cond_false, Bool.cond_self, Bool.not_true, Bool.not_false, Bool.true_or, Bool.or_true, Bool.false_or, Bool.or_false, Bool.and_self, Bool.and_true, Bool.true_and, Bool.false_and, Bool.and_false, bne_self_eq_false, beq_self_eq_true, allT, t10, r0, r1, f1, f2, f3, f4, f5, f6, f7, f8, f9, f10, hS1, hS2, s1, u1, g1, g4, g6, g7, k10, m10, e1, e2, q1, q2, q3, q4, nA, nB, nC, nD, mE, k9, hM, r_a0, r_a1, r_a2, r_a3, r_a4, r_a5, r_a6, r_a7, r_a8, r_a9, r_a10, r_a11, r_a12, r_a13, r_a14, r_a15, r_a16, r_a17, r_a18, r_a19, r_a20, r_a21, r_a22, r_a23]
        have r_a25 := Eq.refl (k7a x4 x5 x6 x7 x8 x9 x10)
        conv at r_a25 => rhs; simp only [k7a, cond_true, cond_false, Bool.cond_self, Bool.not_true, Bool.not_false, Bool.true_or, Bool.or_true, Bool.false_or, Bool.or_false, Bool.and_self, Bool.and_true, Bool.true_and, Bool.false_and, Bool.and_false, bne_self_eq_false, beq_self_eq_true, allT, t10, r0, r1, f1, f2, f3, f4, f5, f6, f7, f8, f9, f10, hS1, hS2, s1, u1, g1, g4, g6, g7, k10, m10, e1, e2, q1, q2, q3, q4, nA, nB, nC, nD, mE, k9, hM, r_a0, r_a1, r_a2, r_a3, r_a4, r_a5, r_a6, r_a7, r_a8, r_a9, r_a10, r_a11, r_a12, r_a13, r_a14, r_a15, r_a16, r_a17, r_a18, r_a19, r_a20, r_a21, r_a22, r_a23, r_a24]
        have r_a26 := Eq.refl (k78 x4 x6 x7 x8 x9 x10)
        conv at r_a26 => rhs; simp only [k78, cond_true, cond_false, Bool.cond_self, Bool.not_true, Bool.not_false, Bool.true_or, Bool.or_true, Bool.false_or, Bool.or_false, Bool.and_self, Bool.and_true, Bool.true_and, Bool.false_and, Bool.and_false, bne_self_eq_false, beq_self_eq_true, allT, t10, r0, r1, f1, f2, f3, f4, f5, f6, f7, f8, f9, f10, hS1, hS2, s1, u1, g1, g4, g6, g7, k10, m10, e1, e2, q1, q2, q3, q4, nA, nB, nC, nD, mE, k9, hM, r_a0, r_a1, r_a2, r_a3, r_a4, r_a5, r_a6, r_a7, r_a8, r_a9, r_a10, r_a11, r_a12, r_a13, r_a14, r_a15, r_a16, r_a17, r_a18, r_a19, r_a20, r_a21, r_a22, r_a23, r_a24, r_a25]
        have r_a27 := Eq.refl (k5a x0 x1 x2 x3 x4 x5 x6 x7 x8 x9 x10)
        conv at r_a27 => rhs; simp only [k5a, cond_true, cond_false, Bool.cond_self, Bool.not_true, Bool.not_false, Bool.true_or, Bool.or_true, Bool.false_or, Bool.or_false, Bool.and_self, Bool.and_true, Bool.true_and, Bool.false_and, Bool.and_false, bne_self_eq_false, beq_self_eq_true, allT, t10, r0, r1, f1, f2, f3, f4, f5, f6, f7, f8, f9, f10, hS1, hS2, s1, u1, g1, g4, g6, g7, k10, m10, e1, e2, q1, q2, q3, q4, nA, nB, nC, nD, mE, k9, hM, r_a0, r_a1, r_a2, r_a3, r_a4, r_a5, r_a6, r_a7, r_a8, r_a9, r_a10, r_a11, r_a12, r_a13, r_a14, r_a15, r_a16, r_a17, r_a18, r_a19, r_a20, r_a21, r_a22, r_a23, r_a24, r_a25, r_a26]
        have r_a28 := Eq.refl (k79 x0 x1 x2 x3 x4 x5 x6 x7 x8 x9 x10)
        conv at r_a28 => rhs; simp only [k79, cond_true, cond_false, Bool.cond_self, Bool.not_true, Bool.not_false, Bool.true_or, Bool.or_true, Bool.false_or, Bool.or_false, Bool.and_self, Bool.and_true, Bool.true_and, Bool.false_and, Bool.and_false, bne_self_eq_false, beq_self_eq_true, allT, t10, r0, r1, f1, f2, f3, f4, f5, f6, f7, f8, f9, f10, hS1, hS2, s1, u1, g1, g4, g6, g7, k10, m10, e1, e2, q1, q2, q3, q4, nA, nB, nC, nD, mE, k9, hM, r_a0, r_a1, r_a2, r_a3, r_a4, r_a5, r_a6, r_a7, r_a8, r_a9, r_a10, r_a11, r_a12, r_a13, r_a14, r_a15, r_a16, r_a17, r_a18, r_a19, r_a20, r_a21, r_a22, r_a23, r_a24, r_a25, r_a26, r_a27]
        refine ⟨?_, ?_⟩ <;> simp only [kb9, kba, cond_true, cond_false, Bool.cond_self, Bool.not_true, Bool.not_false, Bool.true_or, Bool.or_true, Bool.false_or, Bool.or_false, Bool.and_self, Bool.and_true, Bool.true_and, Bool.false_and, Bool.and_false, bne_self_eq_false, beq_self_eq_true, allT, t10, r0, r1, f1, f2, f3, f4, f5, f6, f7, f8, f9, f10, hS1, hS2, s1, u1, g1, g4, g6, g7, k10, m10, e1, e2, q1, q2, q3, q4, nA, nB, nC, nD, mE, k9, hM, r_a0, r_a1, r_a2, r_a3, r_a4, r_a5, r_a6, r_a7, r_a8, r_a9, r_a10, r_a11, r_a12, r_a13, r_a14, r_a15, r_a16, r_a17, r_a18, r_a19, r_a20, r_a21, r_a22, r_a23, r_a24, r_a25, r_a26, r_a27, r_a28]

theorem k144 (x0 x1 x2 : Int) (x4 : List TM) (x5 : List IN) (x3 : Int) (x6 x7 x8 : List Int) (x9 : List BS3) (x10 : List Int) (w4 : wfD (.sl 22 (.pair (.int .i64) (.pair (.str) (.int .i64)))) x4) (w5 : wfD (.sl 23 (.pair (.int .i64) (.int .i64))) x5) (w6 : wfD (.sl 2 (.int .i64)) x6) (w7 : wfD (.sl 2 (.int .i64)) x7) (w8 : wfD (.sl 2 (.int .i64)) x8) (w9 : wfD (.sl 42 (.pair (.int .i64) (.pair (.int .i64) (.int .i64)))) x9) (w10 : wfD (.sl 2 (.int .i64)) x10) :
    k9o x0 x1 x2 x3 x4 x5 x6 x7 x8 x9 x10 = true ∧ k9n x0 x1 x2 x3 x4 x5 x6 x7 x8 x9 x10 = true := by
  have l4 : x4.length ≤ 9223372036854775807 := w4.1
  have l5 : x5.length ≤ 9223372036854775807 := w5.1
  have l6 : x6.length ≤ 9223372036854775807 := w6.1
  have l7 : x7.length ≤ 9223372036854775807 := w7.1
  have l8 : x8.length ≤ 9223372036854775807 := w8.1
  have l9 : x9.length ≤ 9223372036854775807 := w9.1
  have l10 : x10.length ≤ 9223372036854775807 := w10.1
  have hs : ∀ t ∈ x4, t.2.1.size ≤ 9223372036854775807 := fun t ht => (w4.2 t ht).2.1
  cases h10 : ltI 1048576 (x10.length : Int) with
  | true => simp [k9o, k9n, k3g, k2q, k2r, k2p, k6k, k6o, k6n, kq, k5q, k2i, k1s, k2h, k5p, k2y, k5s, k3e, k5o, k49, k5z, k5t, k22, k21, k5y, k5u, k60, k5r, k47, k5v, h10, allT]
  | false =>
    have h10' : x10.length ≤ 1048576 := by
      rcases Nat.lt_or_ge 1048576 x10.length with h | h
      · rw [ltI_t (by omega)] at h10; cases h10
      · exact h
    have t10 : ltI 1048576 (x10.length : Int) = false := h10
    obtain ⟨s1, s2⟩ := k14s (k := 1048576) l4 l5 hs (by omega) (by omega)
    cases h1 : ltI (k8a 1048576 x4 x5) 0 with
    | true => simp [k9o, k9n, ki, k3g, k2q, k2r, k2p, k6k, k6o, k6n, kq, k5q, k2i, k1s, k2h, k5p, k2y, k5s, k3e, k5o, k49, k5z, k5t, k22, k21, k5y, k5u, k60, k5r, k47, k5v, h1, h10, s1, allT]
    | false =>
      obtain ⟨⟨c0, c1⟩, c2⟩ := s2 h1
      obtain ⟨u1, u2⟩ := k14u (k := k8a 1048576 x4 x5) l6 l7 l8 l9 (by omega) c1
      cases h2 : ltI (kem (k8a 1048576 x4 x5) x6 x7 x8 x9) 0 with
      | true => simp [k9o, k9n, ki, km, k3g, k2q, k2r, k2p, k6k, k6o, k6n, kq, k5q, k2i, k1s, k2h, k5p, k2y, k5s, k3e, k5o, k49, k5z, k5t, k22, k21, k5y, k5u, k60, k5r, k47, k5v, h1, h2, h10, s1, u1, allT]
      | false =>
        obtain ⟨d2, d0⟩ := u2 h2
        have r0 := h1
        have r1 := h2
        have k4 : leN x4.length 1048576 = true := leN_t (by omega)
        have k5 : leN x5.length 1048576 = true := leN_t (by omega)
        have k6 : leN x6.length 1048576 = true := leN_t (by omega)
        have k7 : leN x7.length 1048576 = true := leN_t (by omega)
        have k8 : leN x8.length 1048576 = true := leN_t (by omega)
        have k9 : leN x9.length 1048576 = true := leN_t (by omega)
        have k10 : leN x10.length 1048576 = true := leN_t (by omega)
        have m4 : leN x4.length 9223372036854775807 = true := leN_t l4
        have m5 : leN x5.length 9223372036854775807 = true := leN_t l5
        have m10 : leN x10.length 9223372036854775807 = true := leN_t l10
        have hS1 : mhNd x4 x6 x7 x8 [x10] = true := by simp only [mhNd, listNd, k6, k7, k8, m10, k16h.2 ⟨l4, hs⟩, List.all_cons, List.all_nil, Bool.and_true, Bool.true_and, List.length_singleton]; rfl
        have hS2 : (mhNd x4 x6 x7 x8 [x10] && leN x9.length 1048576) = true := by rw [hS1, k9]; rfl
        obtain ⟨n1, n2, n3, n4⟩ := sf_len x0 x1 x2 x4 x5 x3 x6 x7 x8 x9 x10
        generalize hM : sfM x0 x1 x2 x4 x5 x3 x6 x7 x8 x9 x10 = M at n1 n2 n3 n4
        obtain ⟨mk, A, B, C, D⟩ := M
        simp only at n1 n2 n3 n4
        obtain ⟨e1, e2⟩ := ktt mk A B C D (by omega) (by omega) (by omega) (by omega)
        obtain ⟨g1, g2, g3⟩ := k167 x4 x5 (by omega)
        obtain ⟨g4, _, _, _, g5⟩ := kv9 (k91 1 x4 x5) x6 x7 x8 x9 g2 (by omega)
        obtain ⟨q1, q2, q3, q4, _⟩ := kv9 1 A B C D (by omega) (by omega)
        have f1 : k1y x0 x1 x2 x0 x1 x2 x4 x5 x4 x5 = true := by simp [k1y, k148, k16m]
        have f2 : ko7 x0 x1 x2 x0 x1 x2 x4 x5 x4 = true := by simp [ko7, k148, m4, m5, allT]
        obtain ⟨f3, f4⟩ := ktt x3 x6 x7 x8 x9 l6 l7 l8 l9
        have f5 : kg7 x4 x5 = true := by simp only [kg7, k4, k5, allT, cond_true]
        have f6 : kbm x6 x7 x8 x9 = true := by simp only [kbm, k6, k7, k8, k9, allT, cond_true]
        have f7 : eqL x10 x10 = true := k16f x10
        have g6 : mkOk (k4e (k91 1 x4 x5) x6 x7 x8 x9) x10.length = true := k10v.2 (by rw [g5]; omega)
        have g7 : ltI (k4e (k91 1 x4 x5) x6 x7 x8 x9 + (x10.length : Int)) 0 = false := ltI_f (by rw [g5]; omega)
        have f8 := f1
        have f9 := f3
        have f10 := f7
        have nA : leN A.length 9223372036854775807 = true := leN_t (by omega)
        have nB : leN B.length 9223372036854775807 = true := leN_t (by omega)
        have nC : leN C.length 9223372036854775807 = true := leN_t (by omega)
        have nD : leN D.length 9223372036854775807 = true := leN_t (by omega)
        have mE := m10
        have r_a0 := Eq.refl (ki x4 x5)
        conv at r_a0 => rhs; simp only [ki, cond_true, cond_false, Bool.cond_self, Bool.not_true, Bool.not_false, Bool.true_or, Bool.or_true, Bool.false_or, Bool.or_false, Bool.and_self, Bool.and_true, Bool.true_and, Bool.false_and, Bool.and_false, bne_self_eq_false, beq_self_eq_true, allT, t10, r0, r1, f1, f2, f3, f4, f5, f6, f7, f8, f9, f10, hS1, hS2, s1, u1, g1, g4, g6, g7, k10, m10, e1, e2, q1, q2, q3, q4, nA, nB, nC, nD, mE, k9, hM]
        have r_a1 := Eq.refl (km x4 x5 x6 x7 x8 x9)
        conv at r_a1 => rhs; simp only [km, cond_true, cond_false, Bool.cond_self, Bool.not_true, Bool.not_false, Bool.true_or, Bool.or_true, Bool.false_or, Bool.or_false, Bool.and_self, Bool.and_true, Bool.true_and, Bool.false_and, Bool.and_false, bne_self_eq_false, beq_self_eq_true, allT, t10, r0, r1, f1, f2, f3, f4, f5, f6, f7, f8, f9, f10, hS1, hS2, s1, u1, g1, g4, g6, g7, k10, m10, e1, e2, q1, q2, q3, q4, nA, nB, nC, nD, mE, k9, hM, r_a0]
        have r_a2 := Eq.refl (k3g x0 x1 x2 x3 x4 x5 x6 x7 x8 x9 x10)
        conv at r_a2 => rhs; simp only [k3g, cond_true, cond_false, Bool.cond_self, Bool.not_true, Bool.not_false, Bool.true_or, Bool.or_true, Bool.false_or, Bool.or_false, Bool.and_self, Bool.and_true, Bool.true_and, Bool.false_and, Bool.and_false, bne_self_eq_false, beq_self_eq_true, allT, t10, r0, r1, f1, f2, f3, f4, f5, f6, f7, f8, f9, f10, hS1, hS2, s1, u1, g1, g4, g6, g7, k10, m10, e1, e2, q1, q2, q3, q4, nA, nB, nC, nD, mE, k9, hM, r_a0, r_a1]
        have r_a3 := Eq.refl (k2q x0 x1 x2 x3 x4 x5 x6 x7 x8 x9 x10)
        conv at r_a3 => rhs; simp only [k2q, cond_true, cond_false, Bool.cond_self, Bool.not_true, Bool.not_false, Bool.true_or, Bool.or_true, Bool.false_or, Bool.or_false, Bool.and_self, Bool.and_true, Bool.true_and, Bool.false_and, Bool.and_false, bne_self_eq_false, beq_self_eq_true, allT, t10, r0, r1, f1, f2, f3, f4, f5, f6, f7, f8, f9, f10, hS1, hS2, s1, u1, g1, g4, g6, g7, k10, m10, e1, e2, q1, q2, q3, q4, nA, nB, nC, nD, mE, k9, hM, r_a0, r_a1, r_a2]
        have r_a4 := Eq.refl (k2r x0 x1 x2 x3 x4 x5 x6 x7 x8 x9 x10)
        conv at r_a4 => rhs; simp only [k2r, cond_true, cond_false, Bool.cond_self, Bool.not_true, Bool.not_false, Bool.true_or, Bool.or_true, Bool.false_or, Bool.or_false, Bool.and_self, Bool.and_true, Bool.true_and, Bool.false_and, Bool.and_false, bne_self_eq_false, beq_self_eq_true, allT, t10, r0, r1, f1, f2, f3, f4, f5, f6, f7, f8, f9, f10, hS1, hS2, s1, u1, g1, g4, g6, g7, k10, m10, e1, e2, q1, q2, q3, q4, nA, nB, nC, nD, mE, k9, hM, r_a0, r_a1, r_a2, r_a3]
        have r_a5 := Eq.refl (k2p x0 x1 x2 x3 x4 x5 x6 x7 x8 x9 x10)
        conv at r_a5 => rhs; simp only [k2p, cond_true, cond_false, Bool.cond_self, Bool.not_true, Bool.not_false, Bool.true_or, Bool.or_true, Bool.false_or, Bool.or_false, Bool.and_self, Bool.and_true, Bool.true_and, Bool.false_and, Bool.and_false, bne_self_eq_false, beq_self_eq_true, allT, t10, r0, r1, f1, f2, f3, f4, f5, f6, f7, f8, f9, f10, hS1, hS2, s1, u1, g1, g4, g6, g7, k10, m10, e1, e2, q1, q2, q3, q4, nA, nB, nC, nD, mE, k9, hM, r_a0, r_a1, r_a2, r_a3, r_a4]
        have r_a6 := Eq.refl (k6k x0 x1 x2 x3 x4 x5 x6 x7 x8 x9 x10)
        conv at r_a6 => rhs; simp only [k6k, cond_true, cond_false, Bool.cond_self, Bool.not_true, Bool.not_false, Bool.true_or, Bool.or_true, Bool.false_or, Bool.or_false, Bool.and_self, Bool.and_true, Bool.true_and, Bool.false_and, Bool.and_false, bne_self_eq_false, beq_self_eq_true, allT, t10, r0, r1, f1, f2, f3, f4, f5, f6, f7, f8, f9, f10, hS1, hS2, s1, u1, g1, g4, g6, g7, k10, m10, e1, e2, q1, q2, q3, q4, nA, nB, nC, nD, mE, k9, hM, r_a0, r_a1, r_a2, r_a3, r_a4, r_a5]
        have r_a7 := Eq.refl (k6o x0 x1 x2 x3 x4 x5 x6 x7 x8 x9 x10)
        conv at r_a7 => rhs; simp only [k6o, cond_true, cond_false, Bool.cond_self, Bool.not_true, Bool.not_false, Bool.true_or, Bool.or_true, Bool.false_or, Bool.or_false, Bool.and_self, Bool.and_true, Bool.true_and, Bool.false_and, Bool.and_false, bne_self_eq_false, beq_self_eq_true, allT, t10, r0, r1, f1, f2, f3, f4, f5, f6, f7, f8, f9, f10, hS1, hS2, s1, u1, g1, g4, g6, g7, k10, m10, e1, e2, q1, q2, q3, q4, nA, nB, nC, nD, mE, k9, hM, r_a0, r_a1, r_a2, r_a3, r_a4, r_a5, r_a6]
        have r_a8 := Eq.refl (k6n x0 x1 x2 x3 x4 x5 x6 x7 x8 x9 x10)
        conv at r_a8 => rhs; simp only [k6n, cond_true, cond_false, Bool.cond_self, Bool.not_true, Bool.not_false, Bool.true_or, Bool.or_true, Bool.false_or, Bool.or_false, Bool.and_self, Bool.and_true, Bool.true_and, Bool.false_and, Bool.and_false, bne_self_eq_false, beq_self_eq_true, allT, t10, r0, r1, f1, f2, f3, f4, f5, f6, f7, f8, f9, f10, hS1, hS2, s1, u1, g1, g4, g6, g7, k10, m10, e1, e2, q1, q2, q3, q4, nA, nB, nC, nD, mE, k9, hM, r_a0, r_a1, r_a2, r_a3, r_a4, r_a5, r_a6, r_a7]
        have r_a9 := Eq.refl (kq x0 x1 x2 x3 x4 x5 x6 x7 x8 x9 x10)
        conv at r_a9 => rhs; simp only [kq, cond_true, cond_false, Bool.cond_self, Bool.not_true, Bool.not_false, Bool.true_or, Bool.or_true, Bool.false_or, Bool.or_false, Bool.and_self, Bool.and_true, Bool.true_and, Bool.false_and, Bool.and_false, bne_self_eq_false, beq_self_eq_true, allT, t10, r0, r1, f1, f2, f3, f4, f5, f6, f7, f8, f9, f10, hS1, hS2, s1, u1, g1, g4, g6, g7, k10, m10, e1, e2, q1, q2, q3, q4, nA, nB, nC, nD, mE, k9, hM, r_a0, r_a1, r_a2, r_a3, r_a4, r_a5, r_a6, r_a7, r_a8]
        have r_a10 := Eq.refl (k5q x4 x5 x6 x7 x8 x9)
        conv at r_a10 => rhs; simp only [k5q, cond_true, cond_false, Bool.cond_self, Bool.not_true, Bool.not_false, Bool.true_or, Bool.or_true, Bool.false_or, Bool.or_false, Bool.and_self, Bool.and_true, Bool.true_and, Bool.false_and, Bool.and_false, bne_self_eq_false, beq_self_eq_true, allT, t10, r0, r1, f1, f2, f3, f4, f5, f6, f7, f8, f9, f10, hS1, hS2, s1, u1, g1, g4, g6, g7, k10, m10, e1, e2, q1, q2, q3, q4, nA, nB, nC, nD, mE, k9, hM, r_a0, r_a1, r_a2, r_a3, r_a4, r_a5, r_a6, r_a7, r_a8, r_a9]
        have r_a11 := Eq.refl (k2i x4 x5 x6 x7 x8 x9 x10)
        conv at r_a11 => rhs; simp only [k2i, cond_true, cond_false, Bool.cond_self, Bool.not_true, Bool.not_false, Bool.true_or, Bool.or_true, Bool.false_or, Bool.or_false, Bool.and_self, Bool.and_true, Bool.true_and, Bool.false_and, Bool.and_false, bne_self_eq_false, beq_self_eq_true, allT, t10, r0, r1, f1, f2, f3, f4, f5, f6, f7, f8, f9, f10, hS1, hS2, s1, u1, g1, g4, g6, g7, k10, m10, e1, e2, q1, q2, q3, q4, nA, nB, nC, nD, mE, k9, hM, r_a0, r_a1, r_a2, r_a3, r_a4, r_a5, r_a6, r_a7, r_a8, r_a9, r_a10]
        have r_a12 := Eq.refl (k1s x0 x1 x2 x3 x4 x5 x6 x7 x8 x9 x10)
        conv at r_a12 => rhs; simp only [k1s, cond_true, cond_false, Bool.cond_self, Bool.not_true, Bool.not_false, Bool.true_or, Bool.or_true, Bool.false_or, Bool.or_false, Bool.and_self, Bool.and_true, Bool.true_and, Bool.false_and, Bool.and_false, bne_self_eq_false, beq_self_eq_true, allT, t10, r0, r1, f1, f2, f3, f4, f5, f6, f7, f8, f9, f10, hS1, hS2, s1, u1, g1, g4, g6, g7, k10, m10, e1, e2, q1, q2, q3, q4, nA, nB, nC, nD, mE, k9, hM, r_a0, r_a1, r_a2, r_a3, r_a4, r_a5, r_a6, r_a7, r_a8, r_a9, r_a10, r_a11]
        have r_a13 := Eq.refl (k2h x0 x1 x2 x3 x4 x5 x6 x7 x8 x9 x10)
        conv at r_a13 => rhs; simp only [k2h, cond_true, cond_false, Bool.cond_self, Bool.not_true, Bool.not_false, Bool.true_or, Bool.or_true, Bool.false_or, Bool.or_false, Bool.and_self, Bool.and_true, Bool.true_and, Bool.false_and, Bool.and_false, bne_self_eq_false, beq_self_eq_true, allT, t10, r0, r1, f1, f2, f3, f4, f5, f6, f7, f8, f9, f10, hS1, hS2, s1, u1, g1, g4, g6, g7, k10, m10, e1, e2, q1, q2, q3, q4, nA, nB, nC, nD, mE, k9, hM, r_a0, r_a1, r_a2, r_a3, r_a4, r_a5, r_a6, r_a7, r_a8, r_a9, r_a10, r_a11, r_a12]
        have r_a14 := Eq.refl (k5p x0 x1 x2 x3 x4 x5 x6 x7 x8 x9 x10)
        conv at r_a14 => rhs; simp only [k5p, cond_true, cond_false, Bool.cond_self, Bool.not_true, Bool.not_false, Bool.true_or, Bool.or_true, Bool.false_or, Bool.or_false, Bool.and_self, Bool.and_true, Bool.true_and, Bool.false_and, Bool.and_false, bne_self_eq_false, beq_self_eq_true, allT, t10, r0, r1, f1, f2, f3, f4, f5, f6, f7, f8, f9, f10, hS1, hS2, s1, u1, g1, g4, g6, g7, k10, m10, e1, e2, q1, q2, q3, q4, nA, nB, nC, nD, mE, k9, hM, r_a0, r_a1, r_a2, r_a3, r_a4, r_a5, r_a6, r_a7, r_a8, r_a9, r_a10, r_a11, r_a12, r_a13]
        have r_a15 := Eq.refl (k2y x0 x1 x2 x3 x4 x5 x6 x7 x8 x9 x10)
        conv at r_a15 => rhs; simp only [k2y, cond_true, cond_false, Bool.cond_self, Bool.not_true, Bool.not_false, Bool.true_or, Bool.or_true, Bool.false_or, Bool.or_false, Bool.and_self, Bool.and_true, Bool.true_and, Bool.false_and, Bool.and_false, bne_self_eq_false, beq_self_eq_true, allT, t10, r0, r1, f1, f2, f3, f4, f5, f6, f7, f8, f9, f10, hS1, hS2, s1, u1, g1, g4, g6, g7, k10, m10, e1, e2, q1, q2, q3, q4, nA, nB, nC, nD, mE, k9, hM, r_a0, r_a1, r_a2, r_a3, r_a4, r_a5, r_a6, r_a7, r_a8, r_a9, r_a10, r_a11, r_a12, r_a13, r_a14]
        have r_a16 := Eq.refl (k5s x0 x1 x2 x3 x4 x5 x6 x7 x8 x9 x10)
        conv at r_a16 => rhs; simp only [k5s, cond_true, cond_false, Bool.cond_self, Bool.not_true, Bool.not_false, Bool.true_or, Bool.or_true, Bool.false_or, Bool.or_false, Bool.and_self, Bool.and_true, Bool.true_and, Bool.false_and, Bool.and_false, bne_self_eq_false, beq_self_eq_true, allT, t10, r0, r1, f1, f2, f3, f4, f5, f6, f7, f8, f9, f10, hS1, hS2, s1, u1, g1, g4, g6, g7, k10, m10, e1, e2, q1, q2, q3, q4, nA, nB, nC, nD, mE, k9, hM, r_a0, r_a1, r_a2, r_a3, r_a4, r_a5, r_a6, r_a7, r_a8, r_a9, r_a10, r_a11, r_a12, r_a13, r_a14, r_a15]
        have r_a17 := Eq.refl (k3e x0 x1 x2 x3 x4 x5 x6 x7 x8 x9 x10)
        conv at r_a17 => rhs; simp only [k3e, cond_true, cond_false, Bool.cond_self, Bool.not_true, Bool.not_false, Bool.true_or, Bool.or_true, Bool.false_or, Bool.or_false, Bool.and_self, Bool.and_true, Bool.true_and, Bool.false_and, Bool.and_false, bne_self_eq_false, beq_self_eq_true, allT, t10, r0, r1, f1, f2, f3, f4, f5, f6, f7, f8, f9, f10, hS1, hS2, s1, u1, g1, g4, g6, g7, k10, m10, e1, e2, q1, q2, q3, q4, nA, nB, nC, nD, mE, k9, hM, r_a0, r_a1, r_a2, r_a3, r_a4, r_a5, r_a6, r_a7, r_a8, r_a9, r_a10, r_a11, r_a12, r_a13, r_a14, r_a15, r_a16]
        have r_a18 := Eq.refl (k5o x0 x1 x2 x3 x4 x5 x6 x7 x8 x9 x10)
        conv at r_a18 => rhs; simp only [k5o, cond_true, cond_false, Bool.cond_self, Bool.not_true, Bool.not_false, Bool.true_or, Bool.or_true, Bool.false_or, Bool.or_false, Bool.and_self, Bool.and_true, Bool.true_and, Bool.false_and, Bool.and_false, bne_self_eq_false, beq_self_eq_true, allT, t10, r0, r1, f1, f2, f3, f4, f5, f6, f7, f8, f9, f10, hS1, hS2, s1, u1, g1, g4, g6, g7, k10, m10, e1, e2, q1, q2, q3, q4, nA, nB, nC, nD, mE, k9, hM, r_a0, r_a1, r_a2, r_a3, r_a4, r_a5, r_a6, r_a7, r_a8, r_a9, r_a10, r_a11, r_a12, r_a13, r_a14, r_a15, r_a16, r_a17]
        have r_a19 := Eq.refl (k49 x0 x1 x2 x3 x4 x5 x6 x7 x8 x9 x10)
        conv at r_a19 => rhs; simp only [k49, cond_true, cond_false, Bool.cond_self, Bool.not_true, Bool.not_false, Bool.true_or, Bool.or_true, Bool.false_or, Bool.or_false, Bool.and_self, Bool.and_true, Bool.true_and, Bool.false_and, Bool.and_false, bne_self_eq_false, beq_self_eq_true, allT, t10, r0, r1, f1, f2, f3, f4, f5, f6, f7, f8, f9, f10, hS1, hS2, s1, u1, g1, g4, g6, g7, k10, m10, e1, e2, q1, q2, q3, q4, nA, nB, nC, nD, mE, k9, hM, r_a0, r_a1, r_a2, r_a3, r_a4, r_a5, r_a6, r_a7, r_a8, r_a9, r_a10, r_a11, r_a12, r_a13, r_a14, r_a15, r_a16, r_a17, r_a18]
        have r_a20 := Eq.refl (k5z x0 x1 x2 x3 x4 x5 x6 x7 x8 x9 x10)
        conv at r_a20 => rhs; simp only [k5z, cond_true, cond_false, Bool.cond_self, Bool.not_true, Bool.not_false, Bool.true_or, Bool.or_true, Bool.false_or, Bool.or_false, Bool.and_self, Bool.and_true, Bool.true_and, Bool.false_and, Bool.and_false, bne_self_eq_false, beq_self_eq_true, allT, t10, r0, r1, f1, f2, f3, f4, f5, f6, f7, f8, f9, f10, hS1, hS2, s1, u1, g1, g4, g6, g7, k10, m10, e1, e2, q1, q2, q3, q4, nA, nB, nC, nD, mE, k9, hM, r_a0, r_a1, r_a2, r_a3, r_a4, r_a5, r_a6, r_a7, r_a8, r_a9, r_a10, r_a11, r_a12, r_a13, r_a14, r_a15, r_a16, r_a17, r_a18, r_a19]
        have r_a21 := Eq.refl (k5t x0 x1 x2 x3 x4 x5 x6 x7 x8 x9 x10)
        conv at r_a21 => rhs; simp only [k5t, cond_true, cond_false, Bool.cond_self, Bool.not_true, Bool.not_false, Bool.true_or, Bool.or_true, Bool.false_or, Bool.or_false, Bool.and_self, Bool.and_true, Bool.true_and, Bool.false_and, Bool.and_false, bne_self_eq_false, beq_self_eq_true, allT, t10, r0, r1, f1, f2, f3, f4, f5, f6, f7, f8, f9, f10, hS1, hS2, s1, u1, g1, g4, g6, g7, k10, m10, e1, e2, q1, q2, q3, q4, nA, nB, nC, nD, mE, k9, hM, r_a0, r_a1, r_a2, r_a3, r_a4, r_a5, r_a6, r_a7, r_a8, r_a9, r_a10, r_a11, r_a12, r_a13, r_a14, r_a15, r_a16, r_a17, r_a18, r_a19, r_a20]
        have r_a22 := Eq.refl (k22 x0 x1 x2 x3 x4 x5 x6 x7 x8 x9 x10)
        conv at r_a22 => rhs; simp only [k22, cond_true, cond_false, Bool.cond_self, Bool.not_true, Bool.not_false, Bool.true_or, Bool.or_true, Bool.false_or, Bool.or_false, Bool.and_self, Bool.and_true, Bool.true_and, Bool.false_and, Bool.and_false, bne_self_eq_false, beq_self_eq_true, allT, t10, r0, r1, f1, f2, f3, f4, f5, f6, f7, f8, f9, f10, hS1, hS2, s1, u1, g1, g4, g6, g7, k10, m10, e1, e2, q1, q2, q3, q4, nA, nB, nC, nD, mE, k9, hM, r_a0, r_a1, r_a2, r_a3, r_a4, r_a5, r_a6, r_a7, r_a8, r_a9, r_a10, r_a11, r_a12, r_a13, r_a14, r_a15, r_a16, r_a17, r_a18, r_a19, r_a20, r_a21]
        have r_a23 := Eq.refl (k21 x0 x1 x2 x3 x4 x5 x6 x7 x8 x9 x10)
        conv at r_a23 => rhs; simp only [k21, cond_true, cond_false, Bool.cond_self, Bool.not_true, Bool.not_false, Bool.true_or, Bool.or_true, Bool.false_or, Bool.or_false, Bool.and_self, Bool.and_true, Bool.true_and, Bool.false_and, Bool.and_false, bne_self_eq_false, beq_self_eq_true, allT, t10, r0, r1, f1, f2, f3, f4, f5, f6, f7, f8, f9, f10, hS1, hS2, s1, u1, g1, g4, g6, g7, k10, m10, e1, e2, q1, q2, q3, q4, nA, nB, nC, nD, mE, k9, hM, r_a0, r_a1, r_a2, r_a3, r_a4, r_a5, r_a6, r_a7, r_a8, r_a9, r_a10, r_a11, r_a12, r_a13, r_a14, r_a15, r_a16, r_a17, r_a18, r_a19, r_a20, r_a21, r_a22]
        have r_a24 := Eq.refl (k5y x4 x5 x6 x7 x8 x9 x10)
        conv at r_a24 => rhs; simp only [k5y, cond_true, cond_false, Bool.cond_self, Bool.not_true, Bool.not_false, Bool.true_or, Bool.or_true, Bool.false_or, Bool.or_false, Bool.and_self, Bool.and_true, Bool.true_and, Bool.false_and, Bool.and_false, bne_self_eq_false, beq_self_eq_true, allT, t10, r0, r1, f1, f2, f3, f4, f5, f6, f7, f8, f9, f10, hS1, hS2, s1, u1, g1, g4, g6, g7, k10, m10, e1, e2, q1, q2, q3, q4, nA, nB, nC, nD, mE, k9, hM, r_a0, r_a1, r_a2, r_a3, r_a4, r_a5, r_a6, r_a7, r_a8, r_a9, r_a10, r_a11, r_a12, r_a13, r_a14, r_a15, r_a16, r_a17, r_a18, r_a19, r_a20, r_a21, r_a22, r_a23]
        have r_a25 := Eq.refl (k5u x4 x5 x6 x7 x8 x9 x10)
        conv at r_a25 => rhs; simp only [k5u, cond_true, cond_false, Bool.cond_self, Bool.not_true, Bool.not_false, Bool.true_or, Bool.or_true, Bool.false_or, Bool.or_false, Bool.and_self, Bool.and_true, Bool.true_and, Bool.false_and, Bool.and_false, bne_self_eq_false, beq_self_eq_true, allT, t10, r0, r1, f1, f2, f3, f4, f5, f6, f7, f8, f9, f10, hS1, hS2, s1, u1, g1, g4, g6, g7, k10, m10, e1, e2, q1, q2, q3, q4, nA, nB, nC, nD, mE, k9, hM, r_a0, r_a1, r_a2, r_a3, r_a4, r_a5, r_a6, r_a7, r_a8, r_a9, r_a10, r_a11, r_a12, r_a13, r_a14, r_a15, r_a16, r_a17, r_a18, r_a19, r_a20, r_a21, r_a22, r_a23, r_a24]
        have r_a26 := Eq.refl (k60 x4 x5 x6 x7 x8 x9 x10)
        conv at r_a26 => rhs; simp only [k60, cond_true, cond_false, Bool.cond_self, Bool.not_true, Bool.not_false, Bool.true_or, Bool.or_true, Bool.false_or, Bool.or_false, Bool.and_self, Bool.and_true, Bool.true_and, Bool.false_and, Bool.and_false, bne_self_eq_false, beq_self_eq_true, allT, t10, r0, r1, f1, f2, f3, f4, f5, f6, f7, f8, f9, f10, hS1, hS2, s1, u1, g1, g4, g6, g7, k10, m10, e1, e2, q1, q2, q3, q4, nA, nB, nC, nD, mE, k9, hM, r_a0, r_a1, r_a2, r_a3, r_a4, r_a5, r_a6, r_a7, r_a8, r_a9, r_a10, r_a11, r_a12, r_a13, r_a14, r_a15, r_a16, r_a17, r_a18, r_a19, r_a20, r_a21, r_a22, r_a23, r_a24, r_a25]
        have r_a27 := Eq.refl (k5r x4 x6 x7 x8 x9 x10)
        conv at r_a27 => rhs; simp only [k5r, cond_true, cond_false, Bool.cond_self, Bool.not_true, Bool.not_false, Bool.true_or, Bool.or_true, Bool.false_or, Bool.or_false, Bool.and_self, Bool.and_true, Bool.true_and, Bool.false_and, Bool.and_false, bne_self_eq_false, beq_self_eq_true, allT, t10, r0, r1, f1, f2, f3, f4, f5, f6, f7, f8, f9, f10, hS1, hS2, s1, u1, g1, g4, g6, g7, k10, m10, e1, e2, q1, q2, q3, q4, nA, nB, nC, nD, mE, k9, hM, r_a0, r_a1, r_a2, r_a3, r_a4, r_a5, r_a6, r_a7, r_a8, r_a9, r_a10, r_a11, r_a12, r_a13, r_a14, r_a15, r_a16, r_a17, r_a18, r_a19, r_a20, r_a21, r_a22, r_a23, r_a24, r_a25, r_a26]
        have r_a28 := Eq.refl (k47 x0 x1 x2 x3 x4 x5 x6 x7 x8 x9 x10)
        conv at r_a28 => rhs; simp only [k47, cond_true, cond_false, Bool.cond_self, Bool.not_true, Bool.not_false, Bool.true_or, Bool.or_true, Bool.false_or, Bool.or_false, Bool.and_self, Bool.and_true, Bool.true_and, Bool.false_and, Bool.and_false, bne_self_eq_false, beq_self_eq_true, allT, t10, r0, r1, f1, f2, f3, f4, f5, f6, f7, f8, f9, f10, hS1, hS2, s1, u1, g1, g4, g6, g7, k10, m10, e1, e2, q1, q2, q3, q4, nA, nB, nC, nD, mE, k9, hM, r_a0, r_a1, r_a2, r_a3, r_a4, r_a5, r_a6, r_a7, r_a8, r_a9, r_a10, r_a11, r_a12, r_a13, r_a14, r_a15, r_a16, r_a17, r_a18, r_a19, r_a20, r_a21, r_a22, r_a23, r_a24, r_a25, r_a26, r_a27]
        have r_a29 := Eq.refl (k5v x0 x1 x2 x3 x4 x5 x6 x7 x8 x9 x10)
        conv at r_a29 => rhs; simp only [k5v, cond_true, cond_false, Bool.cond_self, Bool.not_true, Bool.not_false, Bool.true_or, Bool.or_true, Bool.false_or, Bool.or_false, Bool.and_self, Bool.and_true, Bool.true_and, Bool.false_and, Bool.and_false, bne_self_eq_false, beq_self_eq_true, allT, t10, r0, r1, f1, f2, f3, f4, f5, f6, f7, f8, f9, f10, hS1, hS2, s1, u1, g1, g4, g6, g7, k10, m10, e1, e2, q1, q2, q3, q4, nA, nB, nC, nD, mE, k9, hM, r_a0, r_a1, r_a2, r_a3, r_a4, r_a5, r_a6, r_a7, r_a8, r_a9, r_a10, r_a11, r_a12, r_a13, r_a14, r_a15, r_a16, r_a17, r_a18, r_a19, r_a20, r_a21, r_a22, r_a23, r_a24, r_a25, r_a26, r_a27, r_a28]
        refine ⟨?_, ?_⟩ <;> simp only [k9o, k9n, cond_true, cond_false, Bool.cond_self, Bool.not_true, Bool.not_false, Bool.true_or, Bool.or_true, Bool.false_or, Bool.or_false, Bool.and_self, Bool.and_true, Bool.true_and, Bool.false_and, Bool.and_false, bne_self_eq_false, beq_self_eq_true, allT, t10, r0, r1, f1, f2, f3, f4, f5, f6, f7, f8, f9, f10, hS1, hS2, s1, u1, g1, g4, g6, g7, k10, m10, e1, e2, q1, q2, q3, q4, nA, nB, nC, nD, mE, k9, hM, r_a0, r_a1, r_a2, r_a3, r_a4, r_a5, r_a6, r_a7, r_a8, r_a9, r_a10, r_a11, r_a12, r_a13, r_a14, r_a15, r_a16, r_a17, r_a18, r_a19, r_a20, r_a21, r_a22, r_a23, r_a24, r_a25, r_a26, r_a27, r_a28, r_a29]

end Go.SX
