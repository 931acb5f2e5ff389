/- What functions of the program come to, and what that says in plain words: part 4. -/
import Derived.Test.YtbbfgoobcjlooaaGreatDoorNc
import Derived.Test.YtbbfgoobcjlooaaGreatDoorTXh
import Derived.Test.YtbbfgoobcjlooaaGreatDoorProg
import Derived.Test.YtbbfgoobcjlooaaGreatDoorTXi
set_option linter.unusedSimpArgs false
set_option linter.unusedVariables false
namespace Go.SX
open Go.Proofs
set_option maxRecDepth 100000

def kt7 (x1 : Int) (x2 : List Int) (x3 : List Int) (x4 : List Int) : Bool :=
  ltI (szV (szV (szV x1 x2) x3) x4) (0 : Int)

def kti (x1 : Int) (x2 : List Int) (x3 : List Int) (x4 : List Int) (x5 : List (Int × Int × Int)) : Int :=
  szL (szV (szV (szV x1 x2) x3) x4) (List.length x5)

def ke8 (x1 : Int) (x2 : List Int) (x3 : List Int) (x4 : List Int) (x5 : List (Int × Int × Int)) : Int :=
  bif ltI (szV x1 x2) (0 : Int) then (-1 : Int)
  else
  bif ltI (szV (szV x1 x2) x3) (0 : Int) then (-1 : Int)
  else
    bif kt7 x1 x2 x3 x4 then (-1 : Int)
    else bif ltI (kti x1 x2 x3 x4 x5) (0 : Int) then (-1 : Int) else kti x1 x2 x3 x4 x5

def ko7 (x1 : Int) (x2 : List Int) (x3 : List Int) (x4 : List Int) (x5 : List (Int × Int × Int)) : Bool :=
  allT
  [leN (List.length x2) (9223372036854775807 : Nat) && (leI (-1 : Int) x1 && leI x1 (1048576 : Int)),
    ltI (szV x1 x2) (0 : Int) || leN (List.length x3) (9223372036854775807 : Nat) && (leI (-1 : Int) (szV x1 x2) && leI (szV x1 x2) (1048576 : Int)),
    ltI (szV x1 x2) (0 : Int) ||
      (ltI (szV (szV x1 x2) x3) (0 : Int) ||
        leN (List.length x4) (9223372036854775807 : Nat) && (leI (-1 : Int) (szV (szV x1 x2) x3) && leI (szV (szV x1 x2) x3) (1048576 : Int))),
    ltI (szV x1 x2) (0 : Int) ||
      (ltI (szV (szV x1 x2) x3) (0 : Int) ||
        (kt7 x1 x2 x3 x4 ||
          leN (List.length x5) (9223372036854775807 : Nat) &&
            (leI (-1 : Int) (szV (szV (szV x1 x2) x3) x4) && leI (szV (szV (szV x1 x2) x3) x4) (1048576 : Int))))]

def kyx : List SV → List Entry → Option Out
  | [.one ⟨true, [.val (.int .i64 _x0), .ref 0, .ref 1, .ref 2, .ref 3]⟩, .one ⟨false, [.val (.int .i64 x1)]⟩], [.row false 2 (.int .i64) x2, .row false 2 (.int .i64) x3, .row false 2 (.int .i64) x4, .row false 194 (.pair (.int .i64) (.pair (.int .i64) (.int .i64))) x5] => some ⟨(.one ⟨false, [(.val (.int IntKind.i64 (ke8 x1 x2 x3 x4 x5)))]⟩), [(.row false 2 (CTy.int IntKind.i64) x2), (.row false 2 (CTy.int IntKind.i64) x3), (.row false 2 (CTy.int IntKind.i64) x4), (.row false 194 (CTy.pair (CTy.int IntKind.i64) (CTy.pair (CTy.int IntKind.i64) (CTy.int IntKind.i64))) x5)], [], [(ko7 x1 x2 x3 x4 x5)]⟩
  | _, _ => none

def kka : PF Tryz.prog := PF.ofG Tryz.prog [kq7, PF.lend kq7, PF.fz kq7, kw3, PF.lend kw3, PF.fz kw3] [] hmix 49 Tryz.f49 Tryz.func49 (fun c _ => LOk.nil c) kyx (by
  intro vs es r h; unfold kyx at h; split at h
  · cases h; kernel_rfl
  · cases h)

def kbj (x1 : List Int) (x2 : List Int) (x3 : List Int) (x4 : List (Int × Int × Int)) : Bool :=
  allT
  [leN (List.length x1) (1048576 : Nat), leN (List.length x2) (1048576 : Nat), leN (List.length x3) (1048576 : Nat),
    leN (List.length x4) (1048576 : Nat)]

def kyd : List SV → List Entry → Option Out
  | [.one ⟨true, [.val (.int .i64 x0), .ref 0, .ref 1, .ref 2, .ref 3]⟩], [.row false 2 (.int .i64) x1, .row false 2 (.int .i64) x2, .row false 2 (.int .i64) x3, .row false 194 (.pair (.int .i64) (.pair (.int .i64) (.int .i64))) x4] => some ⟨(.one ⟨true, [(.val (.int IntKind.i64 x0)), (.ref 4), (.ref 5), (.ref 6), (.ref 7)]⟩), [(.row false 2 (CTy.int IntKind.i64) x1), (.row false 2 (CTy.int IntKind.i64) x2), (.row false 2 (CTy.int IntKind.i64) x3), (.row false 194 (CTy.pair (CTy.int IntKind.i64) (CTy.pair (CTy.int IntKind.i64) (CTy.int IntKind.i64))) x4)], [(.row true 2 (CTy.int IntKind.i64) x1), (.row true 2 (CTy.int IntKind.i64) x2), (.row true 2 (CTy.int IntKind.i64) x3), (.row true 172 (CTy.pair (CTy.int IntKind.i64) (CTy.pair (CTy.int IntKind.i64) (CTy.int IntKind.i64))) x4)], [(kbj x1 x2 x3 x4)]⟩
  | _, _ => none

def kkt : PF Tryz.prog := PF.ofG Tryz.prog [kpu, PF.lend kpu, PF.fz kpu, kg2, PF.lend kg2, PF.fz kg2] [] hmix 51 Tryz.f51 Tryz.func51 (fun c _ => LOk.nil c) kyd (by
  intro vs es r h; unfold kyd at h; split at h
  · cases h; kernel_rfl
  · cases h)

def k1h (x0 : Int) (x1 : Int) (x2 : List Int) (x3 : List Int) (x4 : List Int) (x5 : List (Int × Int × Int)) (x6 : List Int) (x7 : List Int) (x8 : List Int) (x9 : List (Int × Int × Int)) : Bool :=
  bif x0 != x1 then false
  else bif !eqL x2 x6 then false else bif !eqL x3 x7 then false else bif !eqL x4 x8 then false else bif !eqBs x5 x9 then false else true

def ki9 (x0 : Int) (x1 : Int) (x2 : List Int) (x3 : List Int) (x4 : List Int) (x5 : List (Int × Int × Int)) (x6 : List Int) (x7 : List Int) (x8 : List Int) : Bool :=
  allT
  [x0 != x1 || leN (List.length x2) (9223372036854775807 : Nat), x0 != x1 || (!eqL x2 x6 || leN (List.length x3) (9223372036854775807 : Nat)),
    x0 != x1 || (!eqL x2 x6 || (!eqL x3 x7 || leN (List.length x4) (9223372036854775807 : Nat))),
    x0 != x1 || (!eqL x2 x6 || (!eqL x3 x7 || (!eqL x4 x8 || leN (List.length x5) (9223372036854775807 : Nat))))]

def kz1 : List SV → List Entry → Option Out
  | [.one ⟨true, [.val (.int .i64 x0), .ref 0, .ref 1, .ref 2, .ref 3]⟩, .one ⟨true, [.val (.int .i64 x1), .ref 4, .ref 5, .ref 6, .ref 7]⟩], [.row false 2 (.int .i64) x2, .row false 2 (.int .i64) x3, .row false 2 (.int .i64) x4, .row false 172 (.pair (.int .i64) (.pair (.int .i64) (.int .i64))) x5, .row false 2 (.int .i64) x6, .row false 2 (.int .i64) x7, .row false 2 (.int .i64) x8, .row false 172 (.pair (.int .i64) (.pair (.int .i64) (.int .i64))) x9] => some ⟨(.one ⟨false, [(.val (.bool (k1h x0 x1 x2 x3 x4 x5 x6 x7 x8 x9)))]⟩), [(.row false 2 (CTy.int IntKind.i64) x2), (.row false 2 (CTy.int IntKind.i64) x3), (.row false 2 (CTy.int IntKind.i64) x4), (.row false 172 (CTy.pair (CTy.int IntKind.i64) (CTy.pair (CTy.int IntKind.i64) (CTy.int IntKind.i64))) x5), (.row false 2 (CTy.int IntKind.i64) x6), (.row false 2 (CTy.int IntKind.i64) x7), (.row false 2 (CTy.int IntKind.i64) x8), (.row false 172 (CTy.pair (CTy.int IntKind.i64) (CTy.pair (CTy.int IntKind.i64) (CTy.int IntKind.i64))) x9)], [], [(ki9 x0 x1 x2 x3 x4 x5 x6 x7 x8)]⟩
  | _, _ => none

def kkg : PF Tryz.prog := PF.ofG Tryz.prog [kq6, PF.lend kq6, PF.fz kq6, kg5, PF.lend kg5, PF.fz kg5] [] hmix 53 Tryz.f53 Tryz.func53 (fun c _ => LOk.nil c) kz1 (by
  intro vs es r h; unfold kz1 at h; split at h
  · cases h; kernel_rfl
  · cases h)

def kcb (x1 : Int) (x2 : List Int) : Int :=
  x1 + (↑(List.length x2) : Int)

def kcf (x1 : Int) (x2 : List Int) (x3 : List Int) : Int :=
  kcb x1 x2 + (↑(List.length x3) : Int)

def kci (x1 : Int) (x2 : List Int) (x3 : List Int) (x4 : List Int) : Int :=
  kcf x1 x2 x3 + (↑(List.length x4) : Int)

def k4c (x1 : Int) (x2 : List Int) (x3 : List Int) (x4 : List Int) (x5 : List (Int × Int × Int)) : Int :=
  kci x1 x2 x3 x4 + (3 : Int) * (↑(List.length x5) : Int)

def kfp (x1 : Int) (x2 : List Int) : List Int :=
  upFrom x1 (List.length x2)

def kfh (x1 : Int) (x2 : List Int) (x3 : List Int) : List Int :=
  upFrom (kcb x1 x2) (List.length x3)

def kfk (x1 : Int) (x2 : List Int) (x3 : List Int) (x4 : List Int) : List Int :=
  upFrom (kcf x1 x2 x3) (List.length x4)

def kg0 (x1 : Int) (x2 : List Int) (x3 : List Int) (x4 : List Int) (x5 : List (Int × Int × Int)) : List (Int × (Int × Int)) :=
  upG (3 : Nat) mkB (kci x1 x2 x3 x4) (List.length x5)

def kfy (x1 : Int) (x2 : List Int) (x3 : List Int) (x4 : List Int) (x5 : List (Int × Int × Int)) : Bool :=
  allT
  [mkOk x1 (List.length x2), mkOk (kcb x1 x2) (List.length x3), mkOk (kcf x1 x2 x3) (List.length x4),
    mkOk3 (3 : Nat) (kci x1 x2 x3 x4) (List.length x5) && leN (List.length x5) (9223372036854775807 : Nat)]

def kwm : List SV → List Entry → Option Out
  | [.one ⟨true, [.val (.int .i64 _x0), .ref 0, .ref 1, .ref 2, .ref 3]⟩, .one ⟨false, [.val (.int .i64 x1)]⟩], [.row true 2 (.int .i64) x2, .row true 2 (.int .i64) x3, .row true 2 (.int .i64) x4, .row true 172 (.pair (.int .i64) (.pair (.int .i64) (.int .i64))) x5] => some ⟨(.one ⟨false, [(.val (.int IntKind.i64 (k4c x1 x2 x3 x4 x5)))]⟩), [(.row true 2 (CTy.int IntKind.i64) (kfp x1 x2)), (.row true 2 (CTy.int IntKind.i64) (kfh x1 x2 x3)), (.row true 2 (CTy.int IntKind.i64) (kfk x1 x2 x3 x4)), (.row true 172 (CTy.pair (CTy.int IntKind.i64) (CTy.pair (CTy.int IntKind.i64) (CTy.int IntKind.i64))) (kg0 x1 x2 x3 x4 x5))], [], [(kfy x1 x2 x3 x4 x5)]⟩
  | _, _ => none

def khf : PF Tryz.prog := PF.ofG Tryz.prog [knu, PF.lend knu, PF.fz knu, kd9, PF.lend kd9, PF.fz kd9] [] hmix 54 Tryz.f54 Tryz.func54 (fun c _ => LOk.nil c) kwm (by
  intro vs es r h; unfold kwm at h; split at h
  · cases h; kernel_rfl
  · cases h)

def knj (x1 : Int) (x2 : List Int) (x3 : List Int) (x4 : List Int) : Bool :=
  ltI (heldV (heldV (heldV x1 x2) x3) x4) (0 : Int)

def kku (x1 : Int) (x2 : List Int) (x3 : List Int) (x4 : List Int) (x5 : List (Int × Int × Int)) : Int :=
  bif ltI (heldV x1 x2) (0 : Int) then (-1 : Int)
  else
  bif ltI (heldV (heldV x1 x2) x3) (0 : Int) then (-1 : Int)
  else
    bif knj x1 x2 x3 x4 then (-1 : Int)
    else bif ltI (heldB (heldV (heldV (heldV x1 x2) x3) x4) x5) (0 : Int) then (-1 : Int) else heldB (heldV (heldV (heldV x1 x2) x3) x4) x5

def kkp (x1 : Int) (x2 : List Int) (x3 : List Int) (x4 : List Int) (x5 : List (Int × Int × Int)) : Bool :=
  allT
  [leN (List.length x2) (9223372036854775807 : Nat), ltI (heldV x1 x2) (0 : Int) || leN (List.length x3) (9223372036854775807 : Nat),
    ltI (heldV x1 x2) (0 : Int) || (ltI (heldV (heldV x1 x2) x3) (0 : Int) || leN (List.length x4) (9223372036854775807 : Nat)),
    ltI (heldV x1 x2) (0 : Int) ||
      (ltI (heldV (heldV x1 x2) x3) (0 : Int) || (knj x1 x2 x3 x4 || leN (List.length x5) (9223372036854775807 : Nat)))]

def kwg : List SV → List Entry → Option Out
  | [.one ⟨true, [.val (.int .i64 _x0), .ref 0, .ref 1, .ref 2, .ref 3]⟩, .one ⟨false, [.val (.int .i64 x1)]⟩], [.row false 2 (.int .i64) x2, .row false 2 (.int .i64) x3, .row false 2 (.int .i64) x4, .row false 172 (.pair (.int .i64) (.pair (.int .i64) (.int .i64))) x5] => some ⟨(.one ⟨false, [(.val (.int IntKind.i64 (kku x1 x2 x3 x4 x5)))]⟩), [(.row false 2 (CTy.int IntKind.i64) x2), (.row false 2 (CTy.int IntKind.i64) x3), (.row false 2 (CTy.int IntKind.i64) x4), (.row false 172 (CTy.pair (CTy.int IntKind.i64) (CTy.pair (CTy.int IntKind.i64) (CTy.int IntKind.i64))) x5)], [], [(kkp x1 x2 x3 x4 x5)]⟩
  | _, _ => none

def khh : PF Tryz.prog := PF.ofG Tryz.prog [knw, PF.lend knw, PF.fz knw, kt6, PF.lend kt6, PF.fz kt6] [] hmix 55 Tryz.f55 Tryz.func55 (fun c _ => LOk.nil c) kwg (by
  intro vs es r h; unfold kwg at h; split at h
  · cases h; kernel_rfl
  · cases h)

def kn (x4 : List (Int × ByteArray × Int)) (x5 : List (Int × Int)) : Bool :=
  ltI (k8a (1048576 : Int) x4 x5) (0 : Int)

def kt (x4 : List (Int × ByteArray × Int)) (x5 : List (Int × Int)) (x6 : List Int) (x7 : List Int) (x8 : List Int) (x9 : List (Int × Int × Int)) : Bool :=
  ltI (ke8 (k8a (1048576 : Int) x4 x5) x6 x7 x8 x9) (0 : Int)

def k4k (x0 : Int) (x1 : Int) (x2 : Int) (x3 : Int) (x4 : List (Int × ByteArray × Int)) (x5 : List (Int × Int)) (x6 : List Int) (x7 : List Int) (x8 : List Int) (x9 : List (Int × Int × Int)) (x10 : List Int) : Int :=
  Prod.fst (ssM x0 x1 x2 x4 x5 x3 x6 x7 x8 x9 x10)

def k35 (x0 : Int) (x1 : Int) (x2 : Int) (x3 : Int) (x4 : List (Int × ByteArray × Int)) (x5 : List (Int × Int)) (x6 : List Int) (x7 : List Int) (x8 : List Int) (x9 : List (Int × Int × Int)) (x10 : List Int) : List Int :=
  Prod.fst (Prod.snd (ssM x0 x1 x2 x4 x5 x3 x6 x7 x8 x9 x10))

def k34 (x0 : Int) (x1 : Int) (x2 : Int) (x3 : Int) (x4 : List (Int × ByteArray × Int)) (x5 : List (Int × Int)) (x6 : List Int) (x7 : List Int) (x8 : List Int) (x9 : List (Int × Int × Int)) (x10 : List Int) : List Int :=
  Prod.fst (Prod.snd (Prod.snd (ssM x0 x1 x2 x4 x5 x3 x6 x7 x8 x9 x10)))

def k36 (x0 : Int) (x1 : Int) (x2 : Int) (x3 : Int) (x4 : List (Int × ByteArray × Int)) (x5 : List (Int × Int)) (x6 : List Int) (x7 : List Int) (x8 : List Int) (x9 : List (Int × Int × Int)) (x10 : List Int) : List Int :=
  Prod.fst (Prod.snd (Prod.snd (Prod.snd (ssM x0 x1 x2 x4 x5 x3 x6 x7 x8 x9 x10))))

def k7p (x0 : Int) (x1 : Int) (x2 : Int) (x3 : Int) (x4 : List (Int × ByteArray × Int)) (x5 : List (Int × Int)) (x6 : List Int) (x7 : List Int) (x8 : List Int) (x9 : List (Int × Int × Int)) (x10 : List Int) : Bool :=
  !k1h (k4k x0 x1 x2 x3 x4 x5 x6 x7 x8 x9 x10) (k4k x0 x1 x2 x3 x4 x5 x6 x7 x8 x9 x10)
    (k35 x0 x1 x2 x3 x4 x5 x6 x7 x8 x9 x10) (k34 x0 x1 x2 x3 x4 x5 x6 x7 x8 x9 x10)
    (k36 x0 x1 x2 x3 x4 x5 x6 x7 x8 x9 x10) (Prod.snd (Prod.snd (Prod.snd (Prod.snd (ssM x0 x1 x2 x4 x5 x3 x6 x7 x8 x9 x10)))))
    (k35 x0 x1 x2 x3 x4 x5 x6 x7 x8 x9 x10) (k34 x0 x1 x2 x3 x4 x5 x6 x7 x8 x9 x10)
    (k36 x0 x1 x2 x3 x4 x5 x6 x7 x8 x9 x10) (Prod.snd (Prod.snd (Prod.snd (Prod.snd (ssM x0 x1 x2 x4 x5 x3 x6 x7 x8 x9 x10)))))

def k7v (x0 : Int) (x1 : Int) (x2 : Int) (x3 : Int) (x4 : List (Int × ByteArray × Int)) (x5 : List (Int × Int)) (x6 : List Int) (x7 : List Int) (x8 : List Int) (x9 : List (Int × Int × Int)) (x10 : List Int) : Bool :=
  ssCode x0 x1 x2 x4 x5 x3 x6 x7 x8 x9 x10 != ssCode x0 x1 x2 x4 x5 x3 x6 x7 x8 x9 x10

def kw (x0 : Int) (x1 : Int) (x2 : Int) (x3 : Int) (x4 : List (Int × ByteArray × Int)) (x5 : List (Int × Int)) (x6 : List Int) (x7 : List Int) (x8 : List Int) (x9 : List (Int × Int × Int)) (x10 : List Int) : Bool :=
  bif k7p x0 x1 x2 x3 x4 x5 x6 x7 x8 x9 x10 then true else k7v x0 x1 x2 x3 x4 x5 x6 x7 x8 x9 x10

def k7q (x4 : List (Int × ByteArray × Int)) (x5 : List (Int × Int)) (x6 : List Int) (x7 : List Int) (x8 : List Int) (x9 : List (Int × Int × Int)) : Int :=
  k4c (k92 (1 : Int) x4 x5) x6 x7 x8 x9

def k2x (x4 : List (Int × ByteArray × Int)) (x5 : List (Int × Int)) (x6 : List Int) (x7 : List Int) (x8 : List Int) (x9 : List (Int × Int × Int)) (x10 : List Int) : Bool :=
  ltI (k7q x4 x5 x6 x7 x8 x9 + (↑(List.length x10) : Int)) (0 : Int)

def k23 (x0 : Int) (x1 : Int) (x2 : Int) (x3 : Int) (x4 : List (Int × ByteArray × Int)) (x5 : List (Int × Int)) (x6 : List Int) (x7 : List Int) (x8 : List Int) (x9 : List (Int × Int × Int)) (x10 : List Int) : Bool :=
  bif bif k2x x4 x5 x6 x7 x8 x9 x10 then true else k7p x0 x1 x2 x3 x4 x5 x6 x7 x8 x9 x10 then true
  else k7v x0 x1 x2 x3 x4 x5 x6 x7 x8 x9 x10

def k2w (x0 : Int) (x1 : Int) (x2 : Int) (x3 : Int) (x4 : List (Int × ByteArray × Int)) (x5 : List (Int × Int)) (x6 : List Int) (x7 : List Int) (x8 : List Int) (x9 : List (Int × Int × Int)) (x10 : List Int) : List Int :=
  bif !k2x x4 x5 x6 x7 x8 x9 x10 && true then k35 x0 x1 x2 x3 x4 x5 x6 x7 x8 x9 x10
  else k35 x0 x1 x2 x3 x4 x5 x6 x7 x8 x9 x10

def k77 (x0 : Int) (x1 : Int) (x2 : Int) (x3 : Int) (x4 : List (Int × ByteArray × Int)) (x5 : List (Int × Int)) (x6 : List Int) (x7 : List Int) (x8 : List Int) (x9 : List (Int × Int × Int)) (x10 : List Int) : List Int :=
  kfp (1 : Int) (k2w x0 x1 x2 x3 x4 x5 x6 x7 x8 x9 x10)

def k38 (x0 : Int) (x1 : Int) (x2 : Int) (x3 : Int) (x4 : List (Int × ByteArray × Int)) (x5 : List (Int × Int)) (x6 : List Int) (x7 : List Int) (x8 : List Int) (x9 : List (Int × Int × Int)) (x10 : List Int) : List Int :=
  bif !k2x x4 x5 x6 x7 x8 x9 x10 && true then k34 x0 x1 x2 x3 x4 x5 x6 x7 x8 x9 x10
  else k34 x0 x1 x2 x3 x4 x5 x6 x7 x8 x9 x10

def k72 (x0 : Int) (x1 : Int) (x2 : Int) (x3 : Int) (x4 : List (Int × ByteArray × Int)) (x5 : List (Int × Int)) (x6 : List Int) (x7 : List Int) (x8 : List Int) (x9 : List (Int × Int × Int)) (x10 : List Int) : List Int :=
  kfh (1 : Int) (k2w x0 x1 x2 x3 x4 x5 x6 x7 x8 x9 x10)
  (k38 x0 x1 x2 x3 x4 x5 x6 x7 x8 x9 x10)

def k3w (x0 : Int) (x1 : Int) (x2 : Int) (x3 : Int) (x4 : List (Int × ByteArray × Int)) (x5 : List (Int × Int)) (x6 : List Int) (x7 : List Int) (x8 : List Int) (x9 : List (Int × Int × Int)) (x10 : List Int) : List Int :=
  bif !k2x x4 x5 x6 x7 x8 x9 x10 && true then k36 x0 x1 x2 x3 x4 x5 x6 x7 x8 x9 x10
  else k36 x0 x1 x2 x3 x4 x5 x6 x7 x8 x9 x10

def k78 (x0 : Int) (x1 : Int) (x2 : Int) (x3 : Int) (x4 : List (Int × ByteArray × Int)) (x5 : List (Int × Int)) (x6 : List Int) (x7 : List Int) (x8 : List Int) (x9 : List (Int × Int × Int)) (x10 : List Int) : List Int :=
  kfk (1 : Int) (k2w x0 x1 x2 x3 x4 x5 x6 x7 x8 x9 x10)
  (k38 x0 x1 x2 x3 x4 x5 x6 x7 x8 x9 x10) (k3w x0 x1 x2 x3 x4 x5 x6 x7 x8 x9 x10)

def k5c (x0 : Int) (x1 : Int) (x2 : Int) (x3 : Int) (x4 : List (Int × ByteArray × Int)) (x5 : List (Int × Int)) (x6 : List Int) (x7 : List Int) (x8 : List Int) (x9 : List (Int × Int × Int)) (x10 : List Int) : List (Int × Int × Int) :=
  bif !k2x x4 x5 x6 x7 x8 x9 x10 && true then Prod.snd (Prod.snd (Prod.snd (Prod.snd (ssM x0 x1 x2 x4 x5 x3 x6 x7 x8 x9 x10))))
  else Prod.snd (Prod.snd (Prod.snd (Prod.snd (ssM x0 x1 x2 x4 x5 x3 x6 x7 x8 x9 x10))))

def k76 (x0 : Int) (x1 : Int) (x2 : Int) (x3 : Int) (x4 : List (Int × ByteArray × Int)) (x5 : List (Int × Int)) (x6 : List Int) (x7 : List Int) (x8 : List Int) (x9 : List (Int × Int × Int)) (x10 : List Int) : List (Int × Int × Int) :=
  kg0 (1 : Int) (k2w x0 x1 x2 x3 x4 x5 x6 x7 x8 x9 x10)
  (k38 x0 x1 x2 x3 x4 x5 x6 x7 x8 x9 x10) (k3w x0 x1 x2 x3 x4 x5 x6 x7 x8 x9 x10)
  (k5c x0 x1 x2 x3 x4 x5 x6 x7 x8 x9 x10)

def k75 (x0 : Int) (x1 : Int) (x2 : Int) (x3 : Int) (x4 : List (Int × ByteArray × Int)) (x5 : List (Int × Int)) (x6 : List Int) (x7 : List Int) (x8 : List Int) (x9 : List (Int × Int × Int)) (x10 : List Int) : Int :=
  kku (1 : Int) (k77 x0 x1 x2 x3 x4 x5 x6 x7 x8 x9 x10)
  (k72 x0 x1 x2 x3 x4 x5 x6 x7 x8 x9 x10) (k78 x0 x1 x2 x3 x4 x5 x6 x7 x8 x9 x10)
  (k76 x0 x1 x2 x3 x4 x5 x6 x7 x8 x9 x10)

def k28 (x0 : Int) (x1 : Int) (x2 : Int) (x3 : Int) (x4 : List (Int × ByteArray × Int)) (x5 : List (Int × Int)) (x6 : List Int) (x7 : List Int) (x8 : List Int) (x9 : List (Int × Int × Int)) (x10 : List Int) : Bool :=
  ltI (k75 x0 x1 x2 x3 x4 x5 x6 x7 x8 x9 x10) (0 : Int)

def k2a (x0 : Int) (x1 : Int) (x2 : Int) (x3 : Int) (x4 : List (Int × ByteArray × Int)) (x5 : List (Int × Int)) (x6 : List Int) (x7 : List Int) (x8 : List Int) (x9 : List (Int × Int × Int)) (x10 : List Int) : Bool :=
  k75 x0 x1 x2 x3 x4 x5 x6 x7 x8 x9 x10 !=
  k4c (1 : Int) (k2w x0 x1 x2 x3 x4 x5 x6 x7 x8 x9 x10)
    (k38 x0 x1 x2 x3 x4 x5 x6 x7 x8 x9 x10) (k3w x0 x1 x2 x3 x4 x5 x6 x7 x8 x9 x10)
    (k5c x0 x1 x2 x3 x4 x5 x6 x7 x8 x9 x10)

def k79 (x4 : List (Int × ByteArray × Int)) (x5 : List (Int × Int)) (x6 : List Int) (x7 : List Int) (x8 : List Int) (x9 : List (Int × Int × Int)) (x10 : List Int) : Bool :=
  ltI (1048576 : Int) (↑(List.length x10) : Int) ||
  (kn x4 x5 || (kt x4 x5 x6 x7 x8 x9 || kgi x4 x5))

def k74 (x4 : List (Int × ByteArray × Int)) (x5 : List (Int × Int)) (x6 : List Int) (x7 : List Int) (x8 : List Int) (x9 : List (Int × Int × Int)) (x10 : List Int) : Bool :=
  ltI (1048576 : Int) (↑(List.length x10) : Int) ||
  (kn x4 x5 || (kt x4 x5 x6 x7 x8 x9 || kbj x6 x7 x8 x9))

def k73 (x4 : List (Int × ByteArray × Int)) (x5 : List (Int × Int)) (x6 : List Int) (x7 : List Int) (x8 : List Int) (x9 : List (Int × Int × Int)) (x10 : List Int) : Bool :=
  ltI (1048576 : Int) (↑(List.length x10) : Int) ||
  (kn x4 x5 || (kt x4 x5 x6 x7 x8 x9 || leN (List.length x10) (1048576 : Nat)))

def k7b (x4 : List (Int × ByteArray × Int)) (x6 : List Int) (x7 : List Int) (x8 : List Int) (x9 : List (Int × Int × Int)) (x10 : List Int) : Bool :=
  mhNd x4 x6 x7 x8 [x10] && leN (List.length x9) (1048576 : Nat)

def k5a (x0 : Int) (x1 : Int) (x2 : Int) (x3 : Int) (x4 : List (Int × ByteArray × Int)) (x5 : List (Int × Int)) (x6 : List Int) (x7 : List Int) (x8 : List Int) (x9 : List (Int × Int × Int)) (x10 : List Int) : Bool :=
  ki9 (k4k x0 x1 x2 x3 x4 x5 x6 x7 x8 x9 x10) (k4k x0 x1 x2 x3 x4 x5 x6 x7 x8 x9 x10)
  (k35 x0 x1 x2 x3 x4 x5 x6 x7 x8 x9 x10) (k34 x0 x1 x2 x3 x4 x5 x6 x7 x8 x9 x10)
  (k36 x0 x1 x2 x3 x4 x5 x6 x7 x8 x9 x10) (Prod.snd (Prod.snd (Prod.snd (Prod.snd (ssM x0 x1 x2 x4 x5 x3 x6 x7 x8 x9 x10)))))
  (k35 x0 x1 x2 x3 x4 x5 x6 x7 x8 x9 x10) (k34 x0 x1 x2 x3 x4 x5 x6 x7 x8 x9 x10)
  (k36 x0 x1 x2 x3 x4 x5 x6 x7 x8 x9 x10)

def k7a (x0 : Int) (x1 : Int) (x2 : Int) (x3 : Int) (x4 : List (Int × ByteArray × Int)) (x5 : List (Int × Int)) (x6 : List Int) (x7 : List Int) (x8 : List Int) (x9 : List (Int × Int × Int)) (x10 : List Int) : Bool :=
  kkp (1 : Int) (k77 x0 x1 x2 x3 x4 x5 x6 x7 x8 x9 x10)
  (k72 x0 x1 x2 x3 x4 x5 x6 x7 x8 x9 x10) (k78 x0 x1 x2 x3 x4 x5 x6 x7 x8 x9 x10)
  (k76 x0 x1 x2 x3 x4 x5 x6 x7 x8 x9 x10)

def kb7 (x0 : Int) (x1 : Int) (x2 : Int) (x3 : Int) (x4 : List (Int × ByteArray × Int)) (x5 : List (Int × Int)) (x6 : List Int) (x7 : List Int) (x8 : List Int) (x9 : List (Int × Int × Int)) (x10 : List Int) : Bool :=
  bif ltI (1048576 : Int) (↑(List.length x10) : Int) then true
  else
  bif kn x4 x5 then true
  else
    bif kt x4 x5 x6 x7 x8 x9 then true
    else
      bif kw x0 x1 x2 x3 x4 x5 x6 x7 x8 x9 x10 then false
      else
        bif !k1w x0 x1 x2 x0 x1 x2 x4 x5 x4 x5 then false
        else
          bif !k1h x3 x3 x6 x7 x8 x9 x6 x7 x8 x9 then false
          else
            bif !eqL x10 x10 then false
            else
              bif k23 x0 x1 x2 x3 x4 x5 x6 x7 x8 x9 x10 then false
              else
                bif k28 x0 x1 x2 x3 x4 x5 x6 x7 x8 x9 x10 then false
                else
                  bif k2a x0 x1 x2 x3 x4 x5 x6 x7 x8 x9 x10 then false
                  else
                    bif kw x0 x1 x2 x3 x4 x5 x6 x7 x8 x9 x10 then false
                    else
                      bif k28 x0 x1 x2 x3 x4 x5 x6 x7 x8 x9 x10 then false
                      else bif k2a x0 x1 x2 x3 x4 x5 x6 x7 x8 x9 x10 then false else true

def kb5 (x0 : Int) (x1 : Int) (x2 : Int) (x3 : Int) (x4 : List (Int × ByteArray × Int)) (x5 : List (Int × Int)) (x6 : List Int) (x7 : List Int) (x8 : List Int) (x9 : List (Int × Int × Int)) (x10 : List Int) : Bool :=
  allT
  [ltI (1048576 : Int) (↑(List.length x10) : Int) || ksy (1048576 : Int) x4 x5,
    ltI (1048576 : Int) (↑(List.length x10) : Int) ||
      (kn x4 x5 || ko7 (k8a (1048576 : Int) x4 x5) x6 x7 x8 x9),
    k79 x4 x5 x6 x7 x8 x9 x10, k74 x4 x5 x6 x7 x8 x9 x10,
    k73 x4 x5 x6 x7 x8 x9 x10,
    ltI (1048576 : Int) (↑(List.length x10) : Int) ||
      (kn x4 x5 || (kt x4 x5 x6 x7 x8 x9 || mhNd x4 x6 x7 x8 [x10])),
    k79 x4 x5 x6 x7 x8 x9 x10, k74 x4 x5 x6 x7 x8 x9 x10,
    k73 x4 x5 x6 x7 x8 x9 x10,
    ltI (1048576 : Int) (↑(List.length x10) : Int) ||
      (kn x4 x5 || (kt x4 x5 x6 x7 x8 x9 || k7b x4 x6 x7 x8 x9 x10)),
    ltI (1048576 : Int) (↑(List.length x10) : Int) ||
      (kn x4 x5 ||
        (kt x4 x5 x6 x7 x8 x9 || k5a x0 x1 x2 x3 x4 x5 x6 x7 x8 x9 x10)),
    ltI (1048576 : Int) (↑(List.length x10) : Int) ||
      (kn x4 x5 ||
        (kt x4 x5 x6 x7 x8 x9 || (kw x0 x1 x2 x3 x4 x5 x6 x7 x8 x9 x10 || kgi x4 x5))),
    ltI (1048576 : Int) (↑(List.length x10) : Int) ||
      (kn x4 x5 ||
        (kt x4 x5 x6 x7 x8 x9 ||
          (kw x0 x1 x2 x3 x4 x5 x6 x7 x8 x9 x10 || kod x0 x1 x2 x0 x1 x2 x4 x5 x4))),
    ltI (1048576 : Int) (↑(List.length x10) : Int) ||
      (kn x4 x5 ||
        (kt x4 x5 x6 x7 x8 x9 ||
          (kw x0 x1 x2 x3 x4 x5 x6 x7 x8 x9 x10 ||
            (!k1w x0 x1 x2 x0 x1 x2 x4 x5 x4 x5 || kbj x6 x7 x8 x9)))),
    ltI (1048576 : Int) (↑(List.length x10) : Int) ||
      (kn x4 x5 ||
        (kt x4 x5 x6 x7 x8 x9 ||
          (kw x0 x1 x2 x3 x4 x5 x6 x7 x8 x9 x10 ||
            (!k1w x0 x1 x2 x0 x1 x2 x4 x5 x4 x5 || ki9 x3 x3 x6 x7 x8 x9 x6 x7 x8)))),
    ltI (1048576 : Int) (↑(List.length x10) : Int) ||
      (kn x4 x5 ||
        (kt x4 x5 x6 x7 x8 x9 ||
          (kw x0 x1 x2 x3 x4 x5 x6 x7 x8 x9 x10 ||
            (!k1w x0 x1 x2 x0 x1 x2 x4 x5 x4 x5 ||
              (!k1h x3 x3 x6 x7 x8 x9 x6 x7 x8 x9 || leN (List.length x10) (1048576 : Nat)))))),
    ltI (1048576 : Int) (↑(List.length x10) : Int) ||
      (kn x4 x5 ||
        (kt x4 x5 x6 x7 x8 x9 ||
          (kw x0 x1 x2 x3 x4 x5 x6 x7 x8 x9 x10 ||
            (!k1w x0 x1 x2 x0 x1 x2 x4 x5 x4 x5 ||
              (!k1h x3 x3 x6 x7 x8 x9 x6 x7 x8 x9 || leN (List.length x10) (9223372036854775807 : Nat)))))),
    ltI (1048576 : Int) (↑(List.length x10) : Int) ||
      (kn x4 x5 ||
        (kt x4 x5 x6 x7 x8 x9 ||
          (kw x0 x1 x2 x3 x4 x5 x6 x7 x8 x9 x10 ||
            (!k1w x0 x1 x2 x0 x1 x2 x4 x5 x4 x5 ||
              (!k1h x3 x3 x6 x7 x8 x9 x6 x7 x8 x9 || (!eqL x10 x10 || kpf (1 : Int) x4 x5)))))),
    ltI (1048576 : Int) (↑(List.length x10) : Int) ||
      (kn x4 x5 ||
        (kt x4 x5 x6 x7 x8 x9 ||
          (kw x0 x1 x2 x3 x4 x5 x6 x7 x8 x9 x10 ||
            (!k1w x0 x1 x2 x0 x1 x2 x4 x5 x4 x5 ||
              (!k1h x3 x3 x6 x7 x8 x9 x6 x7 x8 x9 ||
                (!eqL x10 x10 || kfy (k92 (1 : Int) x4 x5) x6 x7 x8 x9)))))),
    ltI (1048576 : Int) (↑(List.length x10) : Int) ||
      (kn x4 x5 ||
        (kt x4 x5 x6 x7 x8 x9 ||
          (kw x0 x1 x2 x3 x4 x5 x6 x7 x8 x9 x10 ||
            (!k1w x0 x1 x2 x0 x1 x2 x4 x5 x4 x5 ||
              (!k1h x3 x3 x6 x7 x8 x9 x6 x7 x8 x9 ||
                (!eqL x10 x10 || mkOk (k7q x4 x5 x6 x7 x8 x9) (List.length x10))))))),
    ltI (1048576 : Int) (↑(List.length x10) : Int) ||
      (kn x4 x5 ||
        (kt x4 x5 x6 x7 x8 x9 ||
          (kw x0 x1 x2 x3 x4 x5 x6 x7 x8 x9 x10 ||
            (!k1w x0 x1 x2 x0 x1 x2 x4 x5 x4 x5 ||
              (!k1h x3 x3 x6 x7 x8 x9 x6 x7 x8 x9 ||
                (!eqL x10 x10 ||
                  (!(!k2x x4 x5 x6 x7 x8 x9 x10 && true) ||
                    k5a x0 x1 x2 x3 x4 x5 x6 x7 x8 x9 x10))))))),
    ltI (1048576 : Int) (↑(List.length x10) : Int) ||
      (kn x4 x5 ||
        (kt x4 x5 x6 x7 x8 x9 ||
          (kw x0 x1 x2 x3 x4 x5 x6 x7 x8 x9 x10 ||
            (!k1w x0 x1 x2 x0 x1 x2 x4 x5 x4 x5 ||
              (!k1h x3 x3 x6 x7 x8 x9 x6 x7 x8 x9 ||
                (!eqL x10 x10 ||
                  (k23 x0 x1 x2 x3 x4 x5 x6 x7 x8 x9 x10 ||
                    kfy (1 : Int) (k2w x0 x1 x2 x3 x4 x5 x6 x7 x8 x9 x10)
                      (k38 x0 x1 x2 x3 x4 x5 x6 x7 x8 x9 x10) (k3w x0 x1 x2 x3 x4 x5 x6 x7 x8 x9 x10)
                      (k5c x0 x1 x2 x3 x4 x5 x6 x7 x8 x9 x10)))))))),
    ltI (1048576 : Int) (↑(List.length x10) : Int) ||
      (kn x4 x5 ||
        (kt x4 x5 x6 x7 x8 x9 ||
          (kw x0 x1 x2 x3 x4 x5 x6 x7 x8 x9 x10 ||
            (!k1w x0 x1 x2 x0 x1 x2 x4 x5 x4 x5 ||
              (!k1h x3 x3 x6 x7 x8 x9 x6 x7 x8 x9 ||
                (!eqL x10 x10 ||
                  (k23 x0 x1 x2 x3 x4 x5 x6 x7 x8 x9 x10 ||
                    k7a x0 x1 x2 x3 x4 x5 x6 x7 x8 x9 x10))))))),
    ltI (1048576 : Int) (↑(List.length x10) : Int) ||
      (kn x4 x5 ||
        (kt x4 x5 x6 x7 x8 x9 ||
          (kw x0 x1 x2 x3 x4 x5 x6 x7 x8 x9 x10 ||
            (!k1w x0 x1 x2 x0 x1 x2 x4 x5 x4 x5 ||
              (!k1h x3 x3 x6 x7 x8 x9 x6 x7 x8 x9 ||
                (!eqL x10 x10 ||
                  (k23 x0 x1 x2 x3 x4 x5 x6 x7 x8 x9 x10 ||
                    (k28 x0 x1 x2 x3 x4 x5 x6 x7 x8 x9 x10 ||
                      (k2a x0 x1 x2 x3 x4 x5 x6 x7 x8 x9 x10 || kgi x4 x5))))))))),
    ltI (1048576 : Int) (↑(List.length x10) : Int) ||
      (kn x4 x5 ||
        (kt x4 x5 x6 x7 x8 x9 ||
          (kw x0 x1 x2 x3 x4 x5 x6 x7 x8 x9 x10 ||
            (!k1w x0 x1 x2 x0 x1 x2 x4 x5 x4 x5 ||
              (!k1h x3 x3 x6 x7 x8 x9 x6 x7 x8 x9 ||
                (!eqL x10 x10 ||
                  (k23 x0 x1 x2 x3 x4 x5 x6 x7 x8 x9 x10 ||
                    (k28 x0 x1 x2 x3 x4 x5 x6 x7 x8 x9 x10 ||
                      (k2a x0 x1 x2 x3 x4 x5 x6 x7 x8 x9 x10 || kbj x6 x7 x8 x9))))))))),
    ltI (1048576 : Int) (↑(List.length x10) : Int) ||
      (kn x4 x5 ||
        (kt x4 x5 x6 x7 x8 x9 ||
          (kw x0 x1 x2 x3 x4 x5 x6 x7 x8 x9 x10 ||
            (!k1w x0 x1 x2 x0 x1 x2 x4 x5 x4 x5 ||
              (!k1h x3 x3 x6 x7 x8 x9 x6 x7 x8 x9 ||
                (!eqL x10 x10 ||
                  (k23 x0 x1 x2 x3 x4 x5 x6 x7 x8 x9 x10 ||
                    (k28 x0 x1 x2 x3 x4 x5 x6 x7 x8 x9 x10 ||
                      (k2a x0 x1 x2 x3 x4 x5 x6 x7 x8 x9 x10 || leN (List.length x10) (1048576 : Nat)))))))))),
    ltI (1048576 : Int) (↑(List.length x10) : Int) ||
      (kn x4 x5 ||
        (kt x4 x5 x6 x7 x8 x9 ||
          (kw x0 x1 x2 x3 x4 x5 x6 x7 x8 x9 x10 ||
            (!k1w x0 x1 x2 x0 x1 x2 x4 x5 x4 x5 ||
              (!k1h x3 x3 x6 x7 x8 x9 x6 x7 x8 x9 ||
                (!eqL x10 x10 ||
                  (k23 x0 x1 x2 x3 x4 x5 x6 x7 x8 x9 x10 ||
                    (k28 x0 x1 x2 x3 x4 x5 x6 x7 x8 x9 x10 ||
                      (k2a x0 x1 x2 x3 x4 x5 x6 x7 x8 x9 x10 || k7b x4 x6 x7 x8 x9 x10))))))))),
    ltI (1048576 : Int) (↑(List.length x10) : Int) ||
      (kn x4 x5 ||
        (kt x4 x5 x6 x7 x8 x9 ||
          (kw x0 x1 x2 x3 x4 x5 x6 x7 x8 x9 x10 ||
            (!k1w x0 x1 x2 x0 x1 x2 x4 x5 x4 x5 ||
              (!k1h x3 x3 x6 x7 x8 x9 x6 x7 x8 x9 ||
                (!eqL x10 x10 ||
                  (k23 x0 x1 x2 x3 x4 x5 x6 x7 x8 x9 x10 ||
                    (k28 x0 x1 x2 x3 x4 x5 x6 x7 x8 x9 x10 ||
                      (k2a x0 x1 x2 x3 x4 x5 x6 x7 x8 x9 x10 ||
                        k5a x0 x1 x2 x3 x4 x5 x6 x7 x8 x9 x10))))))))),
    ltI (1048576 : Int) (↑(List.length x10) : Int) ||
      (kn x4 x5 ||
        (kt x4 x5 x6 x7 x8 x9 ||
          (kw x0 x1 x2 x3 x4 x5 x6 x7 x8 x9 x10 ||
            (!k1w x0 x1 x2 x0 x1 x2 x4 x5 x4 x5 ||
              (!k1h x3 x3 x6 x7 x8 x9 x6 x7 x8 x9 ||
                (!eqL x10 x10 ||
                  (k23 x0 x1 x2 x3 x4 x5 x6 x7 x8 x9 x10 ||
                    (k28 x0 x1 x2 x3 x4 x5 x6 x7 x8 x9 x10 ||
                      (k2a x0 x1 x2 x3 x4 x5 x6 x7 x8 x9 x10 ||
                        (kw x0 x1 x2 x3 x4 x5 x6 x7 x8 x9 x10 ||
                          k7a x0 x1 x2 x3 x4 x5 x6 x7 x8 x9 x10))))))))))]

def kqf : List SV → List Entry → Option Out
  | [.one ⟨true, [.val (.int .i64 x0), .val (.int .i64 x1), .val (.int .i64 x2), .ref 0, .ref 1]⟩, .one ⟨true, [.val (.int .i64 x3), .ref 2, .ref 3, .ref 4, .ref 5]⟩, .one ⟨false, [.ref 6]⟩], [.row false 175 (.pair (.int .i64) (.pair (.str) (.int .i64))) x4, .row false 183 (.pair (.int .i64) (.int .i64)) x5, .row false 2 (.int .i64) x6, .row false 2 (.int .i64) x7, .row false 2 (.int .i64) x8, .row false 194 (.pair (.int .i64) (.pair (.int .i64) (.int .i64))) x9, .row false 2 (.int .i64) x10] => some ⟨(.one ⟨false, [(.val (.bool (kb7 x0 x1 x2 x3 x4 x5 x6 x7 x8 x9 x10)))]⟩), [(.row false 175 (CTy.pair (CTy.int IntKind.i64) (CTy.pair CTy.str (CTy.int IntKind.i64))) x4), (.row false 183 (CTy.pair (CTy.int IntKind.i64) (CTy.int IntKind.i64)) x5), (.row false 2 (CTy.int IntKind.i64) x6), (.row false 2 (CTy.int IntKind.i64) x7), (.row false 2 (CTy.int IntKind.i64) x8), (.row false 194 (CTy.pair (CTy.int IntKind.i64) (CTy.pair (CTy.int IntKind.i64) (CTy.int IntKind.i64))) x9), (.row false 2 (CTy.int IntKind.i64) x10)], [], [(kb5 x0 x1 x2 x3 x4 x5 x6 x7 x8 x9 x10)]⟩
  | _, _ => none

def kwq : PF Tryz.prog := PF.ofG Tryz.prog [kqi, PF.lend kqi, PF.fz kqi, kqh, PF.lend kqh, PF.fz kqh, kqg, PF.lend kqg, PF.fz kqg, kn3, PF.lend kn3, PF.fz kn3, kg2, PF.lend kg2, PF.fz kg2, kg5, PF.lend kg5, PF.fz kg5, kd9, PF.lend kd9, PF.fz kd9, kka, PF.lend kka, PF.fz kka, kry, PF.lend kry, PF.fz kry, kkt, PF.lend kkt, PF.fz kkt, krw, PF.lend krw, PF.fz krw, kkg, PF.lend kkg, PF.fz kkg, khf, PF.lend khf, PF.fz khf, khh, PF.lend khh, PF.fz khh] [] hmix 6 Tryz.f6 Tryz.func6 (fun c _ => LOk.nil c) kqf (by
  intro vs es r h; unfold kqf at h; split at h
  · cases h; kernel_rfl
  · cases h)

def ki (x4 : List (Int × ByteArray × Int)) (x5 : List (Int × Int)) : Bool :=
  ltI (k8a (1048576 : Int) x4 x5) (0 : Int)

def km (x4 : List (Int × ByteArray × Int)) (x5 : List (Int × Int)) (x6 : List Int) (x7 : List Int) (x8 : List Int) (x9 : List (Int × Int × Int)) : Bool :=
  ltI (ke8 (k8a (1048576 : Int) x4 x5) x6 x7 x8 x9) (0 : Int)

def k3g (x0 : Int) (x1 : Int) (x2 : Int) (x3 : Int) (x4 : List (Int × ByteArray × Int)) (x5 : List (Int × Int)) (x6 : List Int) (x7 : List Int) (x8 : List Int) (x9 : List (Int × Int × Int)) (x10 : List Int) : Int :=
  Prod.fst (sfM x0 x1 x2 x4 x5 x3 x6 x7 x8 x9 x10)

def k2r (x0 : Int) (x1 : Int) (x2 : Int) (x3 : Int) (x4 : List (Int × ByteArray × Int)) (x5 : List (Int × Int)) (x6 : List Int) (x7 : List Int) (x8 : List Int) (x9 : List (Int × Int × Int)) (x10 : List Int) : List Int :=
  Prod.fst (Prod.snd (sfM x0 x1 x2 x4 x5 x3 x6 x7 x8 x9 x10))

def k2q (x0 : Int) (x1 : Int) (x2 : Int) (x3 : Int) (x4 : List (Int × ByteArray × Int)) (x5 : List (Int × Int)) (x6 : List Int) (x7 : List Int) (x8 : List Int) (x9 : List (Int × Int × Int)) (x10 : List Int) : List Int :=
  Prod.fst (Prod.snd (Prod.snd (sfM x0 x1 x2 x4 x5 x3 x6 x7 x8 x9 x10)))

def k2p (x0 : Int) (x1 : Int) (x2 : Int) (x3 : Int) (x4 : List (Int × ByteArray × Int)) (x5 : List (Int × Int)) (x6 : List Int) (x7 : List Int) (x8 : List Int) (x9 : List (Int × Int × Int)) (x10 : List Int) : List Int :=
  Prod.fst (Prod.snd (Prod.snd (Prod.snd (sfM x0 x1 x2 x4 x5 x3 x6 x7 x8 x9 x10))))

def k6m (x0 : Int) (x1 : Int) (x2 : Int) (x3 : Int) (x4 : List (Int × ByteArray × Int)) (x5 : List (Int × Int)) (x6 : List Int) (x7 : List Int) (x8 : List Int) (x9 : List (Int × Int × Int)) (x10 : List Int) : Bool :=
  !k1h (k3g x0 x1 x2 x3 x4 x5 x6 x7 x8 x9 x10) (k3g x0 x1 x2 x3 x4 x5 x6 x7 x8 x9 x10)
    (k2r x0 x1 x2 x3 x4 x5 x6 x7 x8 x9 x10) (k2q x0 x1 x2 x3 x4 x5 x6 x7 x8 x9 x10)
    (k2p x0 x1 x2 x3 x4 x5 x6 x7 x8 x9 x10)
    (Prod.snd (Prod.snd (Prod.snd (Prod.snd (sfM x0 x1 x2 x4 x5 x3 x6 x7 x8 x9 x10)))))
    (k2r x0 x1 x2 x3 x4 x5 x6 x7 x8 x9 x10) (k2q x0 x1 x2 x3 x4 x5 x6 x7 x8 x9 x10)
    (k2p x0 x1 x2 x3 x4 x5 x6 x7 x8 x9 x10)
    (Prod.snd (Prod.snd (Prod.snd (Prod.snd (sfM x0 x1 x2 x4 x5 x3 x6 x7 x8 x9 x10)))))

def k6o (x0 : Int) (x1 : Int) (x2 : Int) (x3 : Int) (x4 : List (Int × ByteArray × Int)) (x5 : List (Int × Int)) (x6 : List Int) (x7 : List Int) (x8 : List Int) (x9 : List (Int × Int × Int)) (x10 : List Int) : Int :=
  mhCode x0 x1 x2 x4 x5 x3 x6 x7 x8 x9 [x10]

def k6l (x0 : Int) (x1 : Int) (x2 : Int) (x3 : Int) (x4 : List (Int × ByteArray × Int)) (x5 : List (Int × Int)) (x6 : List Int) (x7 : List Int) (x8 : List Int) (x9 : List (Int × Int × Int)) (x10 : List Int) : Bool :=
  k6o x0 x1 x2 x3 x4 x5 x6 x7 x8 x9 x10 != k6o x0 x1 x2 x3 x4 x5 x6 x7 x8 x9 x10

def kq (x0 : Int) (x1 : Int) (x2 : Int) (x3 : Int) (x4 : List (Int × ByteArray × Int)) (x5 : List (Int × Int)) (x6 : List Int) (x7 : List Int) (x8 : List Int) (x9 : List (Int × Int × Int)) (x10 : List Int) : Bool :=
  bif k6m x0 x1 x2 x3 x4 x5 x6 x7 x8 x9 x10 then true else k6l x0 x1 x2 x3 x4 x5 x6 x7 x8 x9 x10

def k5z (x4 : List (Int × ByteArray × Int)) (x5 : List (Int × Int)) (x6 : List Int) (x7 : List Int) (x8 : List Int) (x9 : List (Int × Int × Int)) : Int :=
  k4c (k92 (1 : Int) x4 x5) x6 x7 x8 x9

def k2j (x4 : List (Int × ByteArray × Int)) (x5 : List (Int × Int)) (x6 : List Int) (x7 : List Int) (x8 : List Int) (x9 : List (Int × Int × Int)) (x10 : List Int) : Bool :=
  ltI (k5z x4 x5 x6 x7 x8 x9 + (↑(List.length x10) : Int)) (0 : Int)

def k1s (x0 : Int) (x1 : Int) (x2 : Int) (x3 : Int) (x4 : List (Int × ByteArray × Int)) (x5 : List (Int × Int)) (x6 : List Int) (x7 : List Int) (x8 : List Int) (x9 : List (Int × Int × Int)) (x10 : List Int) : Bool :=
  bif bif k2j x4 x5 x6 x7 x8 x9 x10 then true else k6m x0 x1 x2 x3 x4 x5 x6 x7 x8 x9 x10 then true
  else k6l x0 x1 x2 x3 x4 x5 x6 x7 x8 x9 x10

def k2i (x0 : Int) (x1 : Int) (x2 : Int) (x3 : Int) (x4 : List (Int × ByteArray × Int)) (x5 : List (Int × Int)) (x6 : List Int) (x7 : List Int) (x8 : List Int) (x9 : List (Int × Int × Int)) (x10 : List Int) : List Int :=
  bif !k2j x4 x5 x6 x7 x8 x9 x10 && true then k2r x0 x1 x2 x3 x4 x5 x6 x7 x8 x9 x10
  else k2r x0 x1 x2 x3 x4 x5 x6 x7 x8 x9 x10

def k5q (x0 : Int) (x1 : Int) (x2 : Int) (x3 : Int) (x4 : List (Int × ByteArray × Int)) (x5 : List (Int × Int)) (x6 : List Int) (x7 : List Int) (x8 : List Int) (x9 : List (Int × Int × Int)) (x10 : List Int) : List Int :=
  kfp (1 : Int) (k2i x0 x1 x2 x3 x4 x5 x6 x7 x8 x9 x10)

def k2y (x0 : Int) (x1 : Int) (x2 : Int) (x3 : Int) (x4 : List (Int × ByteArray × Int)) (x5 : List (Int × Int)) (x6 : List Int) (x7 : List Int) (x8 : List Int) (x9 : List (Int × Int × Int)) (x10 : List Int) : List Int :=
  bif !k2j x4 x5 x6 x7 x8 x9 x10 && true then k2q x0 x1 x2 x3 x4 x5 x6 x7 x8 x9 x10
  else k2q x0 x1 x2 x3 x4 x5 x6 x7 x8 x9 x10

def k5x (x0 : Int) (x1 : Int) (x2 : Int) (x3 : Int) (x4 : List (Int × ByteArray × Int)) (x5 : List (Int × Int)) (x6 : List Int) (x7 : List Int) (x8 : List Int) (x9 : List (Int × Int × Int)) (x10 : List Int) : List Int :=
  kfh (1 : Int) (k2i x0 x1 x2 x3 x4 x5 x6 x7 x8 x9 x10)
  (k2y x0 x1 x2 x3 x4 x5 x6 x7 x8 x9 x10)

def k3e (x0 : Int) (x1 : Int) (x2 : Int) (x3 : Int) (x4 : List (Int × ByteArray × Int)) (x5 : List (Int × Int)) (x6 : List Int) (x7 : List Int) (x8 : List Int) (x9 : List (Int × Int × Int)) (x10 : List Int) : List Int :=
  bif !k2j x4 x5 x6 x7 x8 x9 x10 && true then k2p x0 x1 x2 x3 x4 x5 x6 x7 x8 x9 x10
  else k2p x0 x1 x2 x3 x4 x5 x6 x7 x8 x9 x10

def k5v (x0 : Int) (x1 : Int) (x2 : Int) (x3 : Int) (x4 : List (Int × ByteArray × Int)) (x5 : List (Int × Int)) (x6 : List Int) (x7 : List Int) (x8 : List Int) (x9 : List (Int × Int × Int)) (x10 : List Int) : List Int :=
  kfk (1 : Int) (k2i x0 x1 x2 x3 x4 x5 x6 x7 x8 x9 x10)
  (k2y x0 x1 x2 x3 x4 x5 x6 x7 x8 x9 x10) (k3e x0 x1 x2 x3 x4 x5 x6 x7 x8 x9 x10)

def k4a (x0 : Int) (x1 : Int) (x2 : Int) (x3 : Int) (x4 : List (Int × ByteArray × Int)) (x5 : List (Int × Int)) (x6 : List Int) (x7 : List Int) (x8 : List Int) (x9 : List (Int × Int × Int)) (x10 : List Int) : List (Int × Int × Int) :=
  bif !k2j x4 x5 x6 x7 x8 x9 x10 && true then
  Prod.snd (Prod.snd (Prod.snd (Prod.snd (sfM x0 x1 x2 x4 x5 x3 x6 x7 x8 x9 x10))))
  else Prod.snd (Prod.snd (Prod.snd (Prod.snd (sfM x0 x1 x2 x4 x5 x3 x6 x7 x8 x9 x10))))

def k5w (x0 : Int) (x1 : Int) (x2 : Int) (x3 : Int) (x4 : List (Int × ByteArray × Int)) (x5 : List (Int × Int)) (x6 : List Int) (x7 : List Int) (x8 : List Int) (x9 : List (Int × Int × Int)) (x10 : List Int) : List (Int × Int × Int) :=
  kg0 (1 : Int) (k2i x0 x1 x2 x3 x4 x5 x6 x7 x8 x9 x10)
  (k2y x0 x1 x2 x3 x4 x5 x6 x7 x8 x9 x10) (k3e x0 x1 x2 x3 x4 x5 x6 x7 x8 x9 x10)
  (k4a x0 x1 x2 x3 x4 x5 x6 x7 x8 x9 x10)

def k5y (x0 : Int) (x1 : Int) (x2 : Int) (x3 : Int) (x4 : List (Int × ByteArray × Int)) (x5 : List (Int × Int)) (x6 : List Int) (x7 : List Int) (x8 : List Int) (x9 : List (Int × Int × Int)) (x10 : List Int) : Int :=
  kku (1 : Int) (k5q x0 x1 x2 x3 x4 x5 x6 x7 x8 x9 x10)
  (k5x x0 x1 x2 x3 x4 x5 x6 x7 x8 x9 x10) (k5v x0 x1 x2 x3 x4 x5 x6 x7 x8 x9 x10)
  (k5w x0 x1 x2 x3 x4 x5 x6 x7 x8 x9 x10)

def k21 (x0 : Int) (x1 : Int) (x2 : Int) (x3 : Int) (x4 : List (Int × ByteArray × Int)) (x5 : List (Int × Int)) (x6 : List Int) (x7 : List Int) (x8 : List Int) (x9 : List (Int × Int × Int)) (x10 : List Int) : Bool :=
  ltI (k5y x0 x1 x2 x3 x4 x5 x6 x7 x8 x9 x10) (0 : Int)

def k22 (x0 : Int) (x1 : Int) (x2 : Int) (x3 : Int) (x4 : List (Int × ByteArray × Int)) (x5 : List (Int × Int)) (x6 : List Int) (x7 : List Int) (x8 : List Int) (x9 : List (Int × Int × Int)) (x10 : List Int) : Bool :=
  k5y x0 x1 x2 x3 x4 x5 x6 x7 x8 x9 x10 !=
  k4c (1 : Int) (k2i x0 x1 x2 x3 x4 x5 x6 x7 x8 x9 x10)
    (k2y x0 x1 x2 x3 x4 x5 x6 x7 x8 x9 x10) (k3e x0 x1 x2 x3 x4 x5 x6 x7 x8 x9 x10)
    (k4a x0 x1 x2 x3 x4 x5 x6 x7 x8 x9 x10)

def k5s (x4 : List (Int × ByteArray × Int)) (x5 : List (Int × Int)) (x6 : List Int) (x7 : List Int) (x8 : List Int) (x9 : List (Int × Int × Int)) (x10 : List Int) : Bool :=
  ltI (1048576 : Int) (↑(List.length x10) : Int) ||
  (ki x4 x5 || (km x4 x5 x6 x7 x8 x9 || kgi x4 x5))

def k60 (x4 : List (Int × ByteArray × Int)) (x5 : List (Int × Int)) (x6 : List Int) (x7 : List Int) (x8 : List Int) (x9 : List (Int × Int × Int)) (x10 : List Int) : Bool :=
  ltI (1048576 : Int) (↑(List.length x10) : Int) ||
  (ki x4 x5 || (km x4 x5 x6 x7 x8 x9 || kbj x6 x7 x8 x9))

def k5r (x4 : List (Int × ByteArray × Int)) (x5 : List (Int × Int)) (x6 : List Int) (x7 : List Int) (x8 : List Int) (x9 : List (Int × Int × Int)) (x10 : List Int) : Bool :=
  ltI (1048576 : Int) (↑(List.length x10) : Int) ||
  (ki x4 x5 || (km x4 x5 x6 x7 x8 x9 || leN (List.length x10) (1048576 : Nat)))

def k5p (x4 : List (Int × ByteArray × Int)) (x6 : List Int) (x7 : List Int) (x8 : List Int) (x9 : List (Int × Int × Int)) (x10 : List Int) : Bool :=
  mhNd x4 x6 x7 x8 [x10] && leN (List.length x9) (1048576 : Nat)

def k47 (x0 : Int) (x1 : Int) (x2 : Int) (x3 : Int) (x4 : List (Int × ByteArray × Int)) (x5 : List (Int × Int)) (x6 : List Int) (x7 : List Int) (x8 : List Int) (x9 : List (Int × Int × Int)) (x10 : List Int) : Bool :=
  ki9 (k3g x0 x1 x2 x3 x4 x5 x6 x7 x8 x9 x10) (k3g x0 x1 x2 x3 x4 x5 x6 x7 x8 x9 x10)
  (k2r x0 x1 x2 x3 x4 x5 x6 x7 x8 x9 x10) (k2q x0 x1 x2 x3 x4 x5 x6 x7 x8 x9 x10)
  (k2p x0 x1 x2 x3 x4 x5 x6 x7 x8 x9 x10) (Prod.snd (Prod.snd (Prod.snd (Prod.snd (sfM x0 x1 x2 x4 x5 x3 x6 x7 x8 x9 x10)))))
  (k2r x0 x1 x2 x3 x4 x5 x6 x7 x8 x9 x10) (k2q x0 x1 x2 x3 x4 x5 x6 x7 x8 x9 x10)
  (k2p x0 x1 x2 x3 x4 x5 x6 x7 x8 x9 x10)

def k5u (x0 : Int) (x1 : Int) (x2 : Int) (x3 : Int) (x4 : List (Int × ByteArray × Int)) (x5 : List (Int × Int)) (x6 : List Int) (x7 : List Int) (x8 : List Int) (x9 : List (Int × Int × Int)) (x10 : List Int) : Bool :=
  kkp (1 : Int) (k5q x0 x1 x2 x3 x4 x5 x6 x7 x8 x9 x10)
  (k5x x0 x1 x2 x3 x4 x5 x6 x7 x8 x9 x10) (k5v x0 x1 x2 x3 x4 x5 x6 x7 x8 x9 x10)
  (k5w x0 x1 x2 x3 x4 x5 x6 x7 x8 x9 x10)

def k9p (x0 : Int) (x1 : Int) (x2 : Int) (x3 : Int) (x4 : List (Int × ByteArray × Int)) (x5 : List (Int × Int)) (x6 : List Int) (x7 : List Int) (x8 : List Int) (x9 : List (Int × Int × Int)) (x10 : List Int) : Bool :=
  bif ltI (1048576 : Int) (↑(List.length x10) : Int) then true
  else
  bif ki x4 x5 then true
  else
    bif km x4 x5 x6 x7 x8 x9 then true
    else
      bif kq x0 x1 x2 x3 x4 x5 x6 x7 x8 x9 x10 then false
      else
        bif !k1w x0 x1 x2 x0 x1 x2 x4 x5 x4 x5 then false
        else
          bif !k1h x3 x3 x6 x7 x8 x9 x6 x7 x8 x9 then false
          else
            bif !eqL x10 x10 then false
            else
              bif k1s x0 x1 x2 x3 x4 x5 x6 x7 x8 x9 x10 then false
              else
                bif k21 x0 x1 x2 x3 x4 x5 x6 x7 x8 x9 x10 then false
                else
                  bif k22 x0 x1 x2 x3 x4 x5 x6 x7 x8 x9 x10 then false
                  else
                    bif kq x0 x1 x2 x3 x4 x5 x6 x7 x8 x9 x10 then false
                    else
                      bif k21 x0 x1 x2 x3 x4 x5 x6 x7 x8 x9 x10 then false
                      else bif k22 x0 x1 x2 x3 x4 x5 x6 x7 x8 x9 x10 then false else true

def k9o (x0 : Int) (x1 : Int) (x2 : Int) (x3 : Int) (x4 : List (Int × ByteArray × Int)) (x5 : List (Int × Int)) (x6 : List Int) (x7 : List Int) (x8 : List Int) (x9 : List (Int × Int × Int)) (x10 : List Int) : Bool :=
  allT
  [ltI (1048576 : Int) (↑(List.length x10) : Int) || ksy (1048576 : Int) x4 x5,
    ltI (1048576 : Int) (↑(List.length x10) : Int) ||
      (ki x4 x5 || ko7 (k8a (1048576 : Int) x4 x5) x6 x7 x8 x9),
    k5s x4 x5 x6 x7 x8 x9 x10, k60 x4 x5 x6 x7 x8 x9 x10,
    k5r x4 x5 x6 x7 x8 x9 x10,
    ltI (1048576 : Int) (↑(List.length x10) : Int) ||
      (ki x4 x5 || (km x4 x5 x6 x7 x8 x9 || mhNd x4 x6 x7 x8 [x10])),
    k5s x4 x5 x6 x7 x8 x9 x10, k60 x4 x5 x6 x7 x8 x9 x10,
    k5r x4 x5 x6 x7 x8 x9 x10,
    ltI (1048576 : Int) (↑(List.length x10) : Int) ||
      (ki x4 x5 || (km x4 x5 x6 x7 x8 x9 || k5p x4 x6 x7 x8 x9 x10)),
    ltI (1048576 : Int) (↑(List.length x10) : Int) ||
      (ki x4 x5 ||
        (km x4 x5 x6 x7 x8 x9 || k47 x0 x1 x2 x3 x4 x5 x6 x7 x8 x9 x10)),
    ltI (1048576 : Int) (↑(List.length x10) : Int) ||
      (ki x4 x5 ||
        (km x4 x5 x6 x7 x8 x9 || (kq x0 x1 x2 x3 x4 x5 x6 x7 x8 x9 x10 || kgi x4 x5))),
    ltI (1048576 : Int) (↑(List.length x10) : Int) ||
      (ki x4 x5 ||
        (km x4 x5 x6 x7 x8 x9 ||
          (kq x0 x1 x2 x3 x4 x5 x6 x7 x8 x9 x10 || kod x0 x1 x2 x0 x1 x2 x4 x5 x4))),
    ltI (1048576 : Int) (↑(List.length x10) : Int) ||
      (ki x4 x5 ||
        (km x4 x5 x6 x7 x8 x9 ||
          (kq x0 x1 x2 x3 x4 x5 x6 x7 x8 x9 x10 ||
            (!k1w x0 x1 x2 x0 x1 x2 x4 x5 x4 x5 || kbj x6 x7 x8 x9)))),
    ltI (1048576 : Int) (↑(List.length x10) : Int) ||
      (ki x4 x5 ||
        (km x4 x5 x6 x7 x8 x9 ||
          (kq x0 x1 x2 x3 x4 x5 x6 x7 x8 x9 x10 ||
            (!k1w x0 x1 x2 x0 x1 x2 x4 x5 x4 x5 || ki9 x3 x3 x6 x7 x8 x9 x6 x7 x8)))),
    ltI (1048576 : Int) (↑(List.length x10) : Int) ||
      (ki x4 x5 ||
        (km x4 x5 x6 x7 x8 x9 ||
          (kq x0 x1 x2 x3 x4 x5 x6 x7 x8 x9 x10 ||
            (!k1w x0 x1 x2 x0 x1 x2 x4 x5 x4 x5 ||
              (!k1h x3 x3 x6 x7 x8 x9 x6 x7 x8 x9 || leN (List.length x10) (1048576 : Nat)))))),
    ltI (1048576 : Int) (↑(List.length x10) : Int) ||
      (ki x4 x5 ||
        (km x4 x5 x6 x7 x8 x9 ||
          (kq x0 x1 x2 x3 x4 x5 x6 x7 x8 x9 x10 ||
            (!k1w x0 x1 x2 x0 x1 x2 x4 x5 x4 x5 ||
              (!k1h x3 x3 x6 x7 x8 x9 x6 x7 x8 x9 || leN (List.length x10) (9223372036854775807 : Nat)))))),
    ltI (1048576 : Int) (↑(List.length x10) : Int) ||
      (ki x4 x5 ||
        (km x4 x5 x6 x7 x8 x9 ||
          (kq x0 x1 x2 x3 x4 x5 x6 x7 x8 x9 x10 ||
            (!k1w x0 x1 x2 x0 x1 x2 x4 x5 x4 x5 ||
              (!k1h x3 x3 x6 x7 x8 x9 x6 x7 x8 x9 || (!eqL x10 x10 || kpf (1 : Int) x4 x5)))))),
    ltI (1048576 : Int) (↑(List.length x10) : Int) ||
      (ki x4 x5 ||
        (km x4 x5 x6 x7 x8 x9 ||
          (kq x0 x1 x2 x3 x4 x5 x6 x7 x8 x9 x10 ||
            (!k1w x0 x1 x2 x0 x1 x2 x4 x5 x4 x5 ||
              (!k1h x3 x3 x6 x7 x8 x9 x6 x7 x8 x9 ||
                (!eqL x10 x10 || kfy (k92 (1 : Int) x4 x5) x6 x7 x8 x9)))))),
    ltI (1048576 : Int) (↑(List.length x10) : Int) ||
      (ki x4 x5 ||
        (km x4 x5 x6 x7 x8 x9 ||
          (kq x0 x1 x2 x3 x4 x5 x6 x7 x8 x9 x10 ||
            (!k1w x0 x1 x2 x0 x1 x2 x4 x5 x4 x5 ||
              (!k1h x3 x3 x6 x7 x8 x9 x6 x7 x8 x9 ||
                (!eqL x10 x10 || mkOk (k5z x4 x5 x6 x7 x8 x9) (List.length x10))))))),
    ltI (1048576 : Int) (↑(List.length x10) : Int) ||
      (ki x4 x5 ||
        (km x4 x5 x6 x7 x8 x9 ||
          (kq x0 x1 x2 x3 x4 x5 x6 x7 x8 x9 x10 ||
            (!k1w x0 x1 x2 x0 x1 x2 x4 x5 x4 x5 ||
              (!k1h x3 x3 x6 x7 x8 x9 x6 x7 x8 x9 ||
                (!eqL x10 x10 ||
                  (!(!k2j x4 x5 x6 x7 x8 x9 x10 && true) ||
                    k47 x0 x1 x2 x3 x4 x5 x6 x7 x8 x9 x10))))))),
    ltI (1048576 : Int) (↑(List.length x10) : Int) ||
      (ki x4 x5 ||
        (km x4 x5 x6 x7 x8 x9 ||
          (kq x0 x1 x2 x3 x4 x5 x6 x7 x8 x9 x10 ||
            (!k1w x0 x1 x2 x0 x1 x2 x4 x5 x4 x5 ||
              (!k1h x3 x3 x6 x7 x8 x9 x6 x7 x8 x9 ||
                (!eqL x10 x10 ||
                  (k1s x0 x1 x2 x3 x4 x5 x6 x7 x8 x9 x10 ||
                    kfy (1 : Int) (k2i x0 x1 x2 x3 x4 x5 x6 x7 x8 x9 x10)
                      (k2y x0 x1 x2 x3 x4 x5 x6 x7 x8 x9 x10)
                      (k3e x0 x1 x2 x3 x4 x5 x6 x7 x8 x9 x10)
                      (k4a x0 x1 x2 x3 x4 x5 x6 x7 x8 x9 x10)))))))),
    ltI (1048576 : Int) (↑(List.length x10) : Int) ||
      (ki x4 x5 ||
        (km x4 x5 x6 x7 x8 x9 ||
          (kq x0 x1 x2 x3 x4 x5 x6 x7 x8 x9 x10 ||
            (!k1w x0 x1 x2 x0 x1 x2 x4 x5 x4 x5 ||
              (!k1h x3 x3 x6 x7 x8 x9 x6 x7 x8 x9 ||
                (!eqL x10 x10 ||
                  (k1s x0 x1 x2 x3 x4 x5 x6 x7 x8 x9 x10 ||
                    k5u x0 x1 x2 x3 x4 x5 x6 x7 x8 x9 x10))))))),
    ltI (1048576 : Int) (↑(List.length x10) : Int) ||
      (ki x4 x5 ||
        (km x4 x5 x6 x7 x8 x9 ||
          (kq x0 x1 x2 x3 x4 x5 x6 x7 x8 x9 x10 ||
            (!k1w x0 x1 x2 x0 x1 x2 x4 x5 x4 x5 ||
              (!k1h x3 x3 x6 x7 x8 x9 x6 x7 x8 x9 ||
                (!eqL x10 x10 ||
                  (k1s x0 x1 x2 x3 x4 x5 x6 x7 x8 x9 x10 ||
                    (k21 x0 x1 x2 x3 x4 x5 x6 x7 x8 x9 x10 ||
                      (k22 x0 x1 x2 x3 x4 x5 x6 x7 x8 x9 x10 || kgi x4 x5))))))))),
    ltI (1048576 : Int) (↑(List.length x10) : Int) ||
      (ki x4 x5 ||
        (km x4 x5 x6 x7 x8 x9 ||
          (kq x0 x1 x2 x3 x4 x5 x6 x7 x8 x9 x10 ||
            (!k1w x0 x1 x2 x0 x1 x2 x4 x5 x4 x5 ||
              (!k1h x3 x3 x6 x7 x8 x9 x6 x7 x8 x9 ||
                (!eqL x10 x10 ||
                  (k1s x0 x1 x2 x3 x4 x5 x6 x7 x8 x9 x10 ||
                    (k21 x0 x1 x2 x3 x4 x5 x6 x7 x8 x9 x10 ||
                      (k22 x0 x1 x2 x3 x4 x5 x6 x7 x8 x9 x10 || kbj x6 x7 x8 x9))))))))),
    ltI (1048576 : Int) (↑(List.length x10) : Int) ||
      (ki x4 x5 ||
        (km x4 x5 x6 x7 x8 x9 ||
          (kq x0 x1 x2 x3 x4 x5 x6 x7 x8 x9 x10 ||
            (!k1w x0 x1 x2 x0 x1 x2 x4 x5 x4 x5 ||
              (!k1h x3 x3 x6 x7 x8 x9 x6 x7 x8 x9 ||
                (!eqL x10 x10 ||
                  (k1s x0 x1 x2 x3 x4 x5 x6 x7 x8 x9 x10 ||
                    (k21 x0 x1 x2 x3 x4 x5 x6 x7 x8 x9 x10 ||
                      (k22 x0 x1 x2 x3 x4 x5 x6 x7 x8 x9 x10 || leN (List.length x10) (1048576 : Nat)))))))))),
    ltI (1048576 : Int) (↑(List.length x10) : Int) ||
      (ki x4 x5 ||
        (km x4 x5 x6 x7 x8 x9 ||
          (kq x0 x1 x2 x3 x4 x5 x6 x7 x8 x9 x10 ||
            (!k1w x0 x1 x2 x0 x1 x2 x4 x5 x4 x5 ||
              (!k1h x3 x3 x6 x7 x8 x9 x6 x7 x8 x9 ||
                (!eqL x10 x10 ||
                  (k1s x0 x1 x2 x3 x4 x5 x6 x7 x8 x9 x10 ||
                    (k21 x0 x1 x2 x3 x4 x5 x6 x7 x8 x9 x10 ||
                      (k22 x0 x1 x2 x3 x4 x5 x6 x7 x8 x9 x10 || k5p x4 x6 x7 x8 x9 x10))))))))),
    ltI (1048576 : Int) (↑(List.length x10) : Int) ||
      (ki x4 x5 ||
        (km x4 x5 x6 x7 x8 x9 ||
          (kq x0 x1 x2 x3 x4 x5 x6 x7 x8 x9 x10 ||
            (!k1w x0 x1 x2 x0 x1 x2 x4 x5 x4 x5 ||
              (!k1h x3 x3 x6 x7 x8 x9 x6 x7 x8 x9 ||
                (!eqL x10 x10 ||
                  (k1s x0 x1 x2 x3 x4 x5 x6 x7 x8 x9 x10 ||
                    (k21 x0 x1 x2 x3 x4 x5 x6 x7 x8 x9 x10 ||
                      (k22 x0 x1 x2 x3 x4 x5 x6 x7 x8 x9 x10 ||
                        k47 x0 x1 x2 x3 x4 x5 x6 x7 x8 x9 x10))))))))),
    ltI (1048576 : Int) (↑(List.length x10) : Int) ||
      (ki x4 x5 ||
        (km x4 x5 x6 x7 x8 x9 ||
          (kq x0 x1 x2 x3 x4 x5 x6 x7 x8 x9 x10 ||
            (!k1w x0 x1 x2 x0 x1 x2 x4 x5 x4 x5 ||
              (!k1h x3 x3 x6 x7 x8 x9 x6 x7 x8 x9 ||
                (!eqL x10 x10 ||
                  (k1s x0 x1 x2 x3 x4 x5 x6 x7 x8 x9 x10 ||
                    (k21 x0 x1 x2 x3 x4 x5 x6 x7 x8 x9 x10 ||
                      (k22 x0 x1 x2 x3 x4 x5 x6 x7 x8 x9 x10 ||
                        (kq x0 x1 x2 x3 x4 x5 x6 x7 x8 x9 x10 ||
                          k5u x0 x1 x2 x3 x4 x5 x6 x7 x8 x9 x10))))))))))]

def kot : List SV → List Entry → Option Out
  | [.one ⟨true, [.val (.int .i64 x0), .val (.int .i64 x1), .val (.int .i64 x2), .ref 0, .ref 1]⟩, .one ⟨true, [.val (.int .i64 x3), .ref 2, .ref 3, .ref 4, .ref 5]⟩, .one ⟨false, [.ref 6]⟩], [.row false 175 (.pair (.int .i64) (.pair (.str) (.int .i64))) x4, .row false 183 (.pair (.int .i64) (.int .i64)) x5, .row false 2 (.int .i64) x6, .row false 2 (.int .i64) x7, .row false 2 (.int .i64) x8, .row false 194 (.pair (.int .i64) (.pair (.int .i64) (.int .i64))) x9, .row false 2 (.int .i64) x10] => some ⟨(.one ⟨false, [(.val (.bool (k9p x0 x1 x2 x3 x4 x5 x6 x7 x8 x9 x10)))]⟩), [(.row false 175 (CTy.pair (CTy.int IntKind.i64) (CTy.pair CTy.str (CTy.int IntKind.i64))) x4), (.row false 183 (CTy.pair (CTy.int IntKind.i64) (CTy.int IntKind.i64)) x5), (.row false 2 (CTy.int IntKind.i64) x6), (.row false 2 (CTy.int IntKind.i64) x7), (.row false 2 (CTy.int IntKind.i64) x8), (.row false 194 (CTy.pair (CTy.int IntKind.i64) (CTy.pair (CTy.int IntKind.i64) (CTy.int IntKind.i64))) x9), (.row false 2 (CTy.int IntKind.i64) x10)], [], [(k9o x0 x1 x2 x3 x4 x5 x6 x7 x8 x9 x10)]⟩
  | _, _ => none

def kv5 : PF Tryz.prog := PF.ofG Tryz.prog [kqi, PF.lend kqi, PF.fz kqi, kqh, PF.lend kqh, PF.fz kqh, kqg, PF.lend kqg, PF.fz kqg, kn3, PF.lend kn3, PF.fz kn3, kg2, PF.lend kg2, PF.fz kg2, kg5, PF.lend kg5, PF.fz kg5, kd9, PF.lend kd9, PF.fz kd9, kka, PF.lend kka, PF.fz kka, kkt, PF.lend kkt, PF.fz kkt, kkg, PF.lend kkg, PF.fz kkg, khf, PF.lend khf, PF.fz khf, khh, PF.lend khh, PF.fz khh, kpv, PF.lend kpv, PF.fz kpv, kq1, PF.lend kq1, PF.fz kq1] [] hmix 7 Tryz.f7 Tryz.func7 (fun c _ => LOk.nil c) kot (by
  intro vs es r h; unfold kot at h; split at h
  · cases h; kernel_rfl
  · cases h)

end Go.SX

namespace Go.SX
open Go.Proofs
set_option maxRecDepth 100000

theorem k14r {k : Int} {bs : List TM} {st : List IN} (hb : bs.length ≤ 9223372036854775807) (hst : st.length ≤ 9223372036854775807) (hs : ∀ t ∈ bs, t.2.1.size ≤ 9223372036854775807) (h0 : -1 ≤ k) (hk : k ≤ 1048576) :
    ksy k bs st = true ∧ (ltI (k8a k bs st) 0 = false → (0 ≤ k8a k bs st ∧ k8a k bs st ≤ k) ∧ (bs.length : Int) + totT bs + st.length + k8a k bs st = k) := by
  have t1 : leN bs.length 9223372036854775807 = true := leN_t hb
  have t2 : leN st.length 9223372036854775807 = true := leN_t hst
  have t3 : leI (-1) k = true := leI_t h0
  have t4 : leI k 1048576 = true := leI_t hk
  simp only [k8a, ksy, t1, t2, t3, t4, allT]
  cases h1 : ltI (szTs k bs) 0 with
  | true => exact ⟨rfl, fun h => absurd (show ltI (-1) 0 = false from h) (by decide)⟩
  | false =>
    obtain ⟨q1, q2⟩ := k17h hs hk h1
    have u3 : leI (-1) (szTs k bs) = true := leI_t (by omega)
    have u4 : leI (szTs k bs) 1048576 = true := leI_t (by omega)
    refine ⟨by rw [u3, u4]; rfl, fun h => ?_⟩
    simp only [cond_false] at h ⊢
    cases h2 : ltI (szL (szTs k bs) st.length) 0 with
    | true => rw [h2] at h; exact absurd (show ltI (-1) 0 = false from h) (by decide)
    | false =>
      obtain ⟨r1, r2⟩ := k11p h2
      simp only [cond_false]
      omega

theorem k167 (bs : List TM) (st : List IN) (h : (bs.length : Int) + st.length ≤ 1048576) : kpf 1 bs st = true ∧ 0 ≤ k92 1 bs st ∧ k92 1 bs st ≤ 5000000 := by
  have l1 : leN bs.length 9223372036854775807 = true := leN_t (by omega)
  have l2 : leN st.length 9223372036854775807 = true := leN_t (by omega)
  have m1 : mkOk3 3 1 bs.length = true := kxg.2 (by omega)
  have m2 : mkOk3 2 (1 + 3 * (bs.length : Int)) st.length = true := kxg.2 (by omega)
  refine ⟨by simp only [kpf, ko1, m1, m2, l1, l2, allT, Bool.and_self, cond_true], ?_, ?_⟩ <;> simp only [k92, ko1] <;> omega

/-- A machine that is run to its end is possible. -/
theorem k17w {i v o : Int} {bs : List TM} {st : List IN} {inp : List Int} (hC : codeB i v o bs st = true) (hin : bitsB i inp = true) : ∀ (n : Nat) (m : MS), OkS i v o bs st m → st.length - m.1.toNat = n →
    OkS i v o bs st (finM bs st inp n m) ∧ (finM bs st inp n m).1 = st.length
  | 0, m, hm, hn => ⟨hm, by
    have := hm.lo
    have := hm.hi
    show m.1 = _
    omega⟩
  | n + 1, m, hm, hn => by
    have h0 := hm.lo
    have hlt : m.1 < st.length := by omega
    have hs := (stp_ok hC hin hm hlt).1
    have he : (stpM bs st inp m).1 = m.1 + 1 := rfl
    exact k17w hC hin n _ hs (by rw [he]; omega)

theorem run_ok {i v o : Int} {bs : List TM} {st : List IN} {inp : List Int} {k : Int} {stk xs os : List Int} {ss : List BS3} (h : runNd i v o bs st inp k stk xs os ss = true) : OkS i v o bs st (fnM bs st inp k stk xs os ss) ∧ (fnM bs st inp k stk xs os ss).1 = st.length := by
  simp only [runNd, Bool.and_eq_true] at h
  exact k17w h.1 h.2.1 _ _ (mch_ok h.1 h.2.2) rfl

end Go.SX

namespace Go.SX
open Go.Proofs
set_option maxRecDepth 100000

theorem k14o {k : Int} {a b c : List Int} {d : List BS3} (ha : a.length ≤ 9223372036854775807) (hb : b.length ≤ 9223372036854775807) (hc : c.length ≤ 9223372036854775807) (hd : d.length ≤ 9223372036854775807) (h0 : -1 ≤ k) (hk : k ≤ 1048576) :
    ko7 k a b c d = true ∧ (ltI (ke8 k a b c d) 0 = false → (a.length : Int) + b.length + c.length + d.length + ke8 k a b c d = k ∧ 0 ≤ ke8 k a b c d) := by
  have n1 : leN a.length 9223372036854775807 = true := leN_t ha
  have n2 : leN b.length 9223372036854775807 = true := leN_t hb
  have n3 : leN c.length 9223372036854775807 = true := leN_t hc
  have n4 : leN d.length 9223372036854775807 = true := leN_t hd
  have e : ∀ (k : Int) (l : List Int), szV k l = szL k l.length := fun _ _ => rfl
  have t3 : leI (-1) k = true := leI_t h0
  have t4 : leI k 1048576 = true := leI_t hk
  simp only [ke8, ko7, kt7, kti, n1, n2, n3, n4, t3, t4, e, allT]
  cases h1 : ltI (szL k a.length) 0 with
  | true => exact ⟨rfl, fun h => absurd (show ltI (-1) 0 = false from h) (by decide)⟩
  | false =>
    obtain ⟨q1, q2⟩ := k11p h1
    have u1 : leI (-1) (szL k a.length) = true := leI_t (by omega)
    have u2 : leI (szL k a.length) 1048576 = true := leI_t (by omega)
    rw [u1, u2]
    cases h2 : ltI (szL (szL k a.length) b.length) 0 with
    | true => exact ⟨rfl, fun h => absurd (show ltI (-1) 0 = false from h) (by decide)⟩
    | false =>
      obtain ⟨r1, r2⟩ := k11p h2
      have u3 : leI (-1) (szL (szL k a.length) b.length) = true := leI_t (by omega)
      have u4 : leI (szL (szL k a.length) b.length) 1048576 = true := leI_t (by omega)
      rw [u3, u4]
      cases h3 : ltI (szL (szL (szL k a.length) b.length) c.length) 0 with
      | true => exact ⟨rfl, fun h => absurd (show ltI (-1) 0 = false from h) (by decide)⟩
      | false =>
        obtain ⟨p1, p2⟩ := k11p h3
        have u5 : leI (-1) (szL (szL (szL k a.length) b.length) c.length) = true := leI_t (by omega)
        have u6 : leI (szL (szL (szL k a.length) b.length) c.length) 1048576 = true := leI_t (by omega)
        rw [u5, u6]
        refine ⟨rfl, fun h => ?_⟩
        simp only [cond_false] at h ⊢
        cases h4 : ltI (szL (szL (szL (szL k a.length) b.length) c.length) d.length) 0 with
        | true => rw [h4] at h; exact absurd (show ltI (-1) 0 = false from h) (by decide)
        | false =>
          obtain ⟨s1, s2⟩ := k11p h4
          simp only [cond_false]
          omega

/-- A machine's slices marked, and found as they were marked. -/
theorem kvc (k : Int) (a b c : List Int) (d : List BS3) (h0 : 0 ≤ k) (h : k + a.length + b.length + c.length + 3 * (d.length : Int) ≤ 900000000) :
    kfy k a b c d = true ∧ ltI (k4c k a b c d) 0 = false ∧
    kku k (kfp k a) (kfh k a b) (kfk k a b c) (kg0 k a b c d) = k4c k a b c d ∧
    kkp k (kfp k a) (kfh k a b) (kfk k a b c) (kg0 k a b c d) = true ∧
    k4c k a b c d = k + a.length + b.length + c.length + 3 * (d.length : Int) := by
  have m1 : mkOk k a.length = true := k10s.2 (by omega)
  have m2 : mkOk (k + (a.length : Int)) b.length = true := k10s.2 (by omega)
  have m3 : mkOk (k + (a.length : Int) + b.length) c.length = true := k10s.2 (by omega)
  have m4 : mkOk3 3 (k + (a.length : Int) + b.length + c.length) d.length = true := kxg.2 (by omega)
  have l1 : leN a.length 9223372036854775807 = true := leN_t (by omega)
  have l2 : leN b.length 9223372036854775807 = true := leN_t (by omega)
  have l3 : leN c.length 9223372036854775807 = true := leN_t (by omega)
  have l4 : leN d.length 9223372036854775807 = true := leN_t (by omega)
  have v1 := k16c k a.length m1
  have v2 := k16c _ b.length m2
  have v3 := k16c _ c.length m3
  have v4 := k18a _ d.length ((Bool.and_eq_true _ _).mpr ⟨m4, l4⟩)
  have t1 : ltI (k + (a.length : Int)) 0 = false := ltI_f (by omega)
  have t2 : ltI (k + (a.length : Int) + b.length) 0 = false := ltI_f (by omega)
  have t3 : ltI (k + (a.length : Int) + b.length + c.length) 0 = false := ltI_f (by omega)
  have t4 : ltI (k + (a.length : Int) + b.length + c.length + 3 * (d.length : Int)) 0 = false := ltI_f (by omega)
  refine ⟨?_, ?_, ?_, ?_, ?_⟩
  · simp only [kfy, kcb, kcf, kci, m1, m2, m3, m4, l4, allT, Bool.and_self, cond_true]
  · simp only [k4c, kcb, kcf, kci, t4]
  · simp only [kku, knj, k4c, kfp, kfh, kfk, kg0, kcb, kcf, kci, v1, v2, v3, v4, t1, t2, t3, t4, cond_false]
  · simp only [kkp, knj, kfp, kfh, kfk, kg0, kcb, kcf, kci, v1, v2, v3, t1, t2, t3, upFrom_length, k15z, l1, l2, l3, l4, allT, Bool.or_true, cond_true]
  · simp only [k4c, kcb, kcf, kci]

theorem ktz (k : Int) (a b c : List Int) (d : List BS3) (h1 : a.length ≤ 9223372036854775807) (h2 : b.length ≤ 9223372036854775807) (h3 : c.length ≤ 9223372036854775807) (h4 : d.length ≤ 9223372036854775807) :
    k1h k k a b c d a b c d = true ∧ ki9 k k a b c d a b c = true := by
  simp [k1h, ki9, k16b, k17l, allT, h1, h2, h3, h4]

theorem ss_len (i v o : Int) (bs : List TM) (st : List IN) (k : Int) (stk xs os : List Int) (ss : List BS3) (inp : List Int) :
    (ssM i v o bs st k stk xs os ss inp).2.1.length ≤ 40 ∧ (ssM i v o bs st k stk xs os ss inp).2.2.1.length ≤ 20 ∧ (ssM i v o bs st k stk xs os ss inp).2.2.2.1.length ≤ 20 ∧ (ssM i v o bs st k stk xs os ss inp).2.2.2.2.length ≤ 2000 := by
  simp only [ssM]
  by_cases hz : ssCode i v o bs st k stk xs os ss inp = 0
  · obtain ⟨_, _, h4⟩ := k16y hz
    obtain ⟨hC, hin, hm, hlt, _⟩ := k16g h4
    have := ok_len hC (stp_ok (m := (k, stk, xs, os, ss)) hC hin hm hlt).1
    simpa [hz, stM] using this
  · have : (ssCode i v o bs st k stk xs os ss inp == 0) = false := by simpa using hz
    simp [this, m0]

theorem sf_len (i v o : Int) (bs : List TM) (st : List IN) (k : Int) (stk xs os : List Int) (ss : List BS3) (inp : List Int) :
    (sfM i v o bs st k stk xs os ss inp).2.1.length ≤ 40 ∧ (sfM i v o bs st k stk xs os ss inp).2.2.1.length ≤ 20 ∧ (sfM i v o bs st k stk xs os ss inp).2.2.2.1.length ≤ 20 ∧ (sfM i v o bs st k stk xs os ss inp).2.2.2.2.length ≤ 2000 := by
  simp only [sfM]
  by_cases hz : mhCode i v o bs st k stk xs os ss [inp] = 0
  · have hr := mh_ok hz
    have h := hr
    simp only [runNd, Bool.and_eq_true] at h
    have := ok_len h.1 (run_ok hr).1
    simpa [hz] using this
  · have : (mhCode i v o bs st k stk xs os ss [inp] == 0) = false := by simpa using hz
    simp [this, m0]

end Go.SX

namespace Go.SX
open Go.Proofs
set_option maxRecDepth 100000

theorem k154 (x0 x1 x2 : Int) (x4 : List TM) (x5 : List IN) (x3 : Int) (x6 x7 x8 : List Int) (x9 : List BS3) (x10 : List Int) (w4 : wfD (.sl 22 (.pair (.int .i64) (.pair (.str) (.int .i64)))) x4) (w5 : wfD (.sl 23 (.pair (.int .i64) (.int .i64))) x5) (w6 : wfD (.sl 2 (.int .i64)) x6) (w7 : wfD (.sl 2 (.int .i64)) x7) (w8 : wfD (.sl 2 (.int .i64)) x8) (w9 : wfD (.sl 42 (.pair (.int .i64) (.pair (.int .i64) (.int .i64)))) x9) (w10 : wfD (.sl 2 (.int .i64)) x10) :
    kb7 x0 x1 x2 x3 x4 x5 x6 x7 x8 x9 x10 = true ∧ kb5 x0 x1 x2 x3 x4 x5 x6 x7 x8 x9 x10 = true := by
  have l4 : x4.length ≤ 9223372036854775807 := w4.1
  have l5 : x5.length ≤ 9223372036854775807 := w5.1
  have l6 : x6.length ≤ 9223372036854775807 := w6.1
  have l7 : x7.length ≤ 9223372036854775807 := w7.1
  have l8 : x8.length ≤ 9223372036854775807 := w8.1
  have l9 : x9.length ≤ 9223372036854775807 := w9.1
  have l10 : x10.length ≤ 9223372036854775807 := w10.1
  have hs : ∀ t ∈ x4, t.2.1.size ≤ 9223372036854775807 := fun t ht => (w4.2 t ht).2.1
  cases h10 : ltI 1048576 (x10.length : Int) with
  | true => simp [kb7, kb5, k4k, k35, k34, k36, k7p, k7v, kw, k7q, k2x, k23, k2w, k77, k38, k72, k3w, k78, k5c, k76, k75, k28, k2a, k79, k74, k73, k7b, k5a, k7a, h10, allT]
  | false =>
    have h10' : x10.length ≤ 1048576 := by
      rcases Nat.lt_or_ge 1048576 x10.length with h | h
      · rw [ltI_t (by omega)] at h10; cases h10
      · exact h
    have t10 : ltI 1048576 (x10.length : Int) = false := h10
    obtain ⟨s1, s2⟩ := k14r (k := 1048576) l4 l5 hs (by omega) (by omega)
    cases h1 : ltI (k8a 1048576 x4 x5) 0 with
    | true => simp [kb7, kb5, kn, k4k, k35, k34, k36, k7p, k7v, kw, k7q, k2x, k23, k2w, k77, k38, k72, k3w, k78, k5c, k76, k75, k28, k2a, k79, k74, k73, k7b, k5a, k7a, h1, h10, s1, allT]
    | false =>
      obtain ⟨⟨c0, c1⟩, c2⟩ := s2 h1
      obtain ⟨u1, u2⟩ := k14o (k := k8a 1048576 x4 x5) l6 l7 l8 l9 (by omega) c1
      cases h2 : ltI (ke8 (k8a 1048576 x4 x5) x6 x7 x8 x9) 0 with
      | true => simp [kb7, kb5, kn, kt, k4k, k35, k34, k36, k7p, k7v, kw, k7q, k2x, k23, k2w, k77, k38, k72, k3w, k78, k5c, k76, k75, k28, k2a, k79, k74, k73, k7b, k5a, k7a, h1, h2, h10, s1, u1, allT]
      | false =>
        obtain ⟨d2, d0⟩ := u2 h2
        have r0 := h1
        have r1 := h2
        have k4 : leN x4.length 1048576 = true := leN_t (by omega)
        have k5 : leN x5.length 1048576 = true := leN_t (by omega)
        have k6 : leN x6.length 1048576 = true := leN_t (by omega)
        have k7 : leN x7.length 1048576 = true := leN_t (by omega)
        have k8 : leN x8.length 1048576 = true := leN_t (by omega)
        have k9 : leN x9.length 1048576 = true := leN_t (by omega)
        have k10 : leN x10.length 1048576 = true := leN_t (by omega)
        have m4 : leN x4.length 9223372036854775807 = true := leN_t l4
        have m5 : leN x5.length 9223372036854775807 = true := leN_t l5
        have m10 : leN x10.length 9223372036854775807 = true := leN_t l10
        have hS1 : mhNd x4 x6 x7 x8 [x10] = true := by simp only [mhNd, listNd, k6, k7, k8, m10, k16d.2 ⟨l4, hs⟩, List.all_cons, List.all_nil, Bool.and_true, Bool.true_and, List.length_singleton]; rfl
        have hS2 : (mhNd x4 x6 x7 x8 [x10] && leN x9.length 1048576) = true := by rw [hS1, k9]; rfl
        obtain ⟨n1, n2, n3, n4⟩ := ss_len x0 x1 x2 x4 x5 x3 x6 x7 x8 x9 x10
        generalize hM : ssM x0 x1 x2 x4 x5 x3 x6 x7 x8 x9 x10 = M at n1 n2 n3 n4
        obtain ⟨mk, A, B, C, D⟩ := M
        simp only at n1 n2 n3 n4
        obtain ⟨e1, e2⟩ := ktz mk A B C D (by omega) (by omega) (by omega) (by omega)
        obtain ⟨g1, g2, g3⟩ := k167 x4 x5 (by omega)
        obtain ⟨g4, _, _, _, g5⟩ := kvc (k92 1 x4 x5) x6 x7 x8 x9 g2 (by omega)
        obtain ⟨q1, q2, q3, q4, _⟩ := kvc 1 A B C D (by omega) (by omega)
        have f1 : k1w x0 x1 x2 x0 x1 x2 x4 x5 x4 x5 = true := by simp [k1w, k148, k16k]
        have f2 : kod x0 x1 x2 x0 x1 x2 x4 x5 x4 = true := by simp [kod, k148, m4, m5, allT]
        obtain ⟨f3, f4⟩ := ktz x3 x6 x7 x8 x9 l6 l7 l8 l9
        have f5 : kgi x4 x5 = true := by simp only [kgi, k4, k5, allT, cond_true]
        have f6 : kbj x6 x7 x8 x9 = true := by simp only [kbj, k6, k7, k8, k9, allT, cond_true]
        have f7 : eqL x10 x10 = true := k16b x10
        have g6 : mkOk (k4c (k92 1 x4 x5) x6 x7 x8 x9) x10.length = true := k10s.2 (by rw [g5]; omega)
        have g7 : ltI (k4c (k92 1 x4 x5) x6 x7 x8 x9 + (x10.length : Int)) 0 = false := ltI_f (by rw [g5]; omega)
        have f8 := f1
        have f9 := f3
        have f10 := f7
        have nA : leN A.length 9223372036854775807 = true := leN_t (by omega)
        have nB : leN B.length 9223372036854775807 = true := leN_t (by omega)
        have nC : leN C.length 9223372036854775807 = true := leN_t (by omega)
        have nD : leN D.length 9223372036854775807 = true := leN_t (by omega)
        have mE := m10
        have r_a0 := Eq.refl (kn x4 x5)
        conv at r_a0 => rhs; simp only [kn, cond_true, cond_false, Bool.cond_self, Bool.not_true, Bool.not_false, Bool.true_or, Bool.or_true, Bool.false_or, Bool.or_false, Bool.and_self, Bool.and_true, Bool.true_and, Bool.false_and, Bool.and_false, bne_self_eq_false, beq_self_eq_true, allT, t10, r0, r1, f1, f2, f3, f4, f5, f6, f7, f8, f9, f10, hS1, hS2, s1, u1, g1, g4, g6, g7, k10, m10, e1, e2, q1, q2, q3, q4, nA, nB, nC, nD, mE, k9, hM]
        have r_a1 := Eq.refl (kt x4 x5 x6 x7 x8 x9)
        conv at r_a1 => rhs; simp only [kt, cond_true, cond_false, Bool.cond_self, Bool.not_true, Bool.not_false, Bool.true_or, Bool.or_true, Bool.false_or, Bool.or_false, Bool.and_self, Bool.and_true, Bool.true_and, Bool.false_and, Bool.and_false, bne_self_eq_false, beq_self_eq_true, allT, t10, r0, r1, f1, f2, f3, f4, f5, f6, f7, f8, f9, f10, hS1, hS2, s1, u1, g1, g4, g6, g7, k10, m10, e1, e2, q1, q2, q3, q4, nA, nB, nC, nD, mE, k9, hM, r_a0]
        have r_a2 := Eq.refl (k4k x0 x1 x2 x3 x4 x5 x6 x7 x8 x9 x10)
        conv at r_a2 => rhs; simp only [k4k, cond_true, cond_false, Bool.cond_self, Bool.not_true, Bool.not_false, Bool.true_or, Bool.or_true, Bool.false_or, Bool.or_false, Bool.and_self, Bool.and_true, Bool.true_and, Bool.false_and, Bool.and_false, bne_self_eq_false, beq_self_eq_true, allT, t10, r0, r1, f1, f2, f3, f4, f5, f6, f7, f8, f9, f10, hS1, hS2, s1, u1, g1, g4, g6, g7, k10, m10, e1, e2, q1, q2, q3, q4, nA, nB, nC, nD, mE, k9, hM, r_a0, r_a1]
        have r_a3 := Eq.refl (k35 x0 x1 x2 x3 x4 x5 x6 x7 x8 x9 x10)
        conv at r_a3 => rhs; simp only [k35, cond_true, cond_false, Bool.cond_self, Bool.not_true, Bool.not_false, Bool.true_or, Bool.or_true, Bool.false_or, Bool.or_false, Bool.and_self, Bool.and_true, Bool.true_and, Bool.false_and, Bool.and_false, bne_self_eq_false, beq_self_eq_true, allT, t10, r0, r1, f1, f2, f3, f4, f5, f6, f7, f8, f9, f10, hS1, hS2, s1, u1, g1, g4, g6, g7, k10, m10, e1, e2, q1, q2, q3, q4, nA, nB, nC, nD, mE, k9, hM, r_a0, r_a1, r_a2]
        have r_a4 := Eq.refl (k34 x0 x1 x2 x3 x4 x5 x6 x7 x8 x9 x10)
        conv at r_a4 => rhs; simp only [k34, cond_true, cond_false, Bool.cond_self, Bool.not_true, Bool.not_false, Bool.true_or, Bool.or_true, Bool.false_or, Bool.or_false, Bool.and_self, Bool.and_true, Bool.true_and, Bool.false_and, Bool.and_false, bne_self_eq_false, beq_self_eq_true, allT, t10, r0, r1, f1, f2, f3, f4, f5, f6, f7, f8, f9, f10, hS1, hS2, s1, u1, g1, g4, g6, g7, k10, m10, e1, e2, q1, q2, q3, q4, nA, nB, nC, nD, mE, k9, hM, r_a0, r_a1, r_a2, r_a3]
        have r_a5 := Eq.refl (k36 x0 x1 x2 x3 x4 x5 x6 x7 x8 x9 x10)
        conv at r_a5 => rhs; simp only [k36, cond_true, cond_false, Bool.cond_self, Bool.not_true, Bool.not_false, Bool.true_or, Bool.or_true, Bool.false_or, Bool.or_false, Bool.and_self, Bool.and_true, Bool.true_and, Bool.false_and, Bool.and_false, bne_self_eq_false, beq_self_eq_true, allT, t10, r0, r1, f1, f2, f3, f4, f5, f6, f7, f8, f9, f10, hS1, hS2, s1, u1, g1, g4, g6, g7, k10, m10, e1, e2, q1, q2, q3, q4, nA, nB, nC, nD, mE, k9, hM, r_a0, r_a1, r_a2, r_a3, r_a4]
        have r_a6 := Eq.refl (k7p x0 x1 x2 x3 x4 x5 x6 x7 x8 x9 x10)
        conv at r_a6 => rhs; simp only [k7p, cond_true, cond_false, Bool.cond_self, Bool.not_true, Bool.not_false, Bool.true_or, Bool.or_true, Bool.false_or, Bool.or_false, Bool.and_self, Bool.and_true, Bool.true_and, Bool.false_and, Bool.and_false, bne_self_eq_false, beq_self_eq_true, allT, t10, r0, r1, f1, f2, f3, f4, f5, f6, f7, f8, f9, f10, hS1, hS2, s1, u1, g1, g4, g6, g7, k10, m10, e1, e2, q1, q2, q3, q4, nA, nB, nC, nD, mE, k9, hM, r_a0, r_a1, r_a2, r_a3, r_a4, r_a5]
        have r_a7 := Eq.refl (k7v x0 x1 x2 x3 x4 x5 x6 x7 x8 x9 x10)
        conv at r_a7 => rhs; simp only [k7v, cond_true, cond_false, Bool.cond_self, Bool.not_true, Bool.not_false, Bool.true_or, Bool.or_true, Bool.false_or, Bool.or_false, Bool.and_self, Bool.and_true, Bool.true_and, Bool.false_and, Bool.and_false, bne_self_eq_false, beq_self_eq_true, allT, t10, r0, r1, f1, f2, f3, f4, f5, f6, f7, f8, f9, f10, hS1, hS2, s1, u1, g1, g4, g6, g7, k10, m10, e1, e2, q1, q2, q3, q4, nA, nB, nC, nD, mE, k9, hM, r_a0, r_a1, r_a2, r_a3, r_a4, r_a5, r_a6]
        have r_a8 := Eq.refl (kw x0 x1 x2 x3 x4 x5 x6 x7 x8 x9 x10)
        conv at r_a8 => rhs; simp only [kw, cond_true, cond_false, Bool.cond_self, Bool.not_true, Bool.not_false, Bool.true_or, Bool.or_true, Bool.false_or, Bool.or_false, Bool.and_self, Bool.and_true, Bool.true_and, Bool.false_and, Bool.and_false, bne_self_eq_false, beq_self_eq_true, allT, t10, r0, r1, f1, f2, f3, f4, f5, f6, f7, f8, f9, f10, hS1, hS2, s1, u1, g1, g4, g6, g7, k10, m10, e1, e2, q1, q2, q3, q4, nA, nB, nC, nD, mE, k9, hM, r_a0, r_a1, r_a2, r_a3, r_a4, r_a5, r_a6, r_a7]
        have r_a9 := Eq.refl (k7q x4 x5 x6 x7 x8 x9)
        conv at r_a9 => rhs; simp only [k7q, cond_true, cond_false, Bool.cond_self, Bool.not_true, Bool.not_false, Bool.true_or, Bool.or_true, Bool.false_or, Bool.or_false, Bool.and_self, Bool.and_true, Bool.true_and, Bool.false_and, Bool.and_false, bne_self_eq_false, beq_self_eq_true, allT, t10, r0, r1, f1, f2, f3, f4, f5, f6, f7, f8, f9, f10, hS1, hS2, s1, u1, g1, g4, g6, g7, k10, m10, e1, e2, q1, q2, q3, q4, nA, nB, nC, nD, mE, k9, hM, r_a0, r_a1, r_a2, r_a3, r_a4, r_a5, r_a6, r_a7, r_a8]
        have r_a10 := Eq.refl (k2x x4 x5 x6 x7 x8 x9 x10)
        conv at r_a10 => rhs; simp only [k2x, cond_true, cond_false, Bool.cond_self, Bool.not_true, Bool.not_false, Bool.true_or, Bool.or_true, Bool.false_or, Bool.or_false, Bool.and_self, Bool.and_true, Bool.true_and, Bool.false_and, Bool.and_false, bne_self_eq_false, beq_self_eq_true, allT, t10, r0, r1, f1, f2, f3, f4, f5, f6, f7, f8, f9, f10, hS1, hS2, s1, u1, g1, g4, g6, g7, k10, m10, e1, e2, q1, q2, q3, q4, nA, nB, nC, nD, mE, k9, hM, r_a0, r_a1, r_a2, r_a3, r_a4, r_a5, r_a6, r_a7, r_a8, r_a9]
        have r_a11 := Eq.refl (k23 x0 x1 x2 x3 x4 x5 x6 x7 x8 x9 x10)
        conv at r_a11 => rhs; simp only [k23, cond_true, cond_false, Bool.cond_self, Bool.not_true, Bool.not_false, Bool.true_or, Bool.or_true, Bool.false_or, Bool.or_false, Bool.and_self, Bool.and_true, Bool.true_and, Bool.false_and, Bool.and_false, bne_self_eq_false, beq_self_eq_true, allT, t10, r0, r1, f1, f2, f3, f4, f5, f6, f7, f8, f9, f10, hS1, hS2, s1, u1, g1, g4, g6, g7, k10, m10, e1, e2, q1, q2, q3, q4, nA, nB, nC, nD, mE, k9, hM, r_a0, r_a1, r_a2, r_a3, r_a4, r_a5, r_a6, r_a7, r_a8, r_a9, r_a10]
        have r_a12 := Eq.refl (k2w x0 x1 x2 x3 x4 x5 x6 x7 x8 x9 x10)
        conv at r_a12 => rhs; simp only [k2w, cond_true, cond_false, Bool.cond_self, Bool.not_true, Bool.not_false, Bool.true_or, Bool.or_true, Bool.false_or, Bool.or_false, Bool.and_self, Bool.and_true, Bool.true_and, Bool.false_and, Bool.and_false, bne_self_eq_false, beq_self_eq_true, allT, t10, r0, r1, f1, f2, f3, f4, f5, f6, f7, f8, f9, f10, hS1, hS2, s1, u1, g1, g4, g6, g7, k10, m10, e1, e2, q1, q2, q3, q4, nA, nB, nC, nD, mE, k9, hM, r_a0, r_a1, r_a2, r_a3, r_a4, r_a5, r_a6, r_a7, r_a8, r_a9, r_a10, r_a11]
        have r_a13 := Eq.refl (k77 x0 x1 x2 x3 x4 x5 x6 x7 x8 x9 x10)
        conv at r_a13 => rhs; simp only [k77, cond_true, cond_false, Bool.cond_self, Bool.not_true, Bool.not_false, Bool.true_or, Bool.or_true, Bool.false_or, Bool.or_false, Bool.and_self, Bool.and_true, Bool.true_and, Bool.false_and, Bool.and_false, bne_self_eq_false, beq_self_eq_true, allT, t10, r0, r1, f1, f2, f3, f4, f5, f6, f7, f8, f9, f10, hS1, hS2, s1, u1, g1, g4, g6, g7, k10, m10, e1, e2, q1, q2, q3, q4, nA, nB, nC, nD, mE, k9, hM, r_a0, r_a1, r_a2, r_a3, r_a4, r_a5, r_a6, r_a7, r_a8, r_a9, r_a10, r_a11, r_a12]
        have r_a14 := Eq.refl (k38 x0 x1 x2 x3 x4 x5 x6 x7 x8 x9 x10)
        conv at r_a14 => rhs; simp only [k38, cond_true, cond_false, Bool.cond_self, Bool.not_true, Bool.not_false, Bool.true_or, Bool.or_true, Bool.false_or, Bool.or_false, Bool.and_self, Bool.and_true, Bool.true_and, Bool.false_and, Bool.and_false, bne_self_eq_false, beq_self_eq_true, allT, t10, r0, r1, f1, f2, f3, f4, f5, f6, f7, f8, f9, f10, hS1, hS2, s1, u1, g1, g4, g6, g7, k10, m10, e1, e2, q1, q2, q3, q4, nA, nB, nC, nD, mE, k9, hM, r_a0, r_a1, r_a2, r_a3, r_a4, r_a5, r_a6, r_a7, r_a8, r_a9, r_a10, r_a11, r_a12, r_a13]
        have r_a15 := Eq.refl (k72 x0 x1 x2 x3 x4 x5 x6 x7 x8 x9 x10)
        conv at r_a15 => rhs; simp only [k72, cond_true, cond_false, Bool.cond_self, Bool.not_true, Bool.not_false, Bool.true_or, Bool.or_true, Bool.false_or, Bool.or_false, Bool.and_self, Bool.and_true, Bool.true_and, Bool.false_and, Bool.and_false, bne_self_eq_false, beq_self_eq_true, allT, t10, r0, r1, f1, f2, f3, f4, f5, f6, f7, f8, f9, f10, hS1, hS2, s1, u1, g1, g4, g6, g7, k10, m10, e1, e2, q1, q2, q3, q4, nA, nB, nC, nD, mE, k9, hM, r_a0, r_a1, r_a2, r_a3, r_a4, r_a5, r_a6, r_a7, r_a8, r_a9, r_a10, r_a11, r_a12, r_a13, r_a14]
        have r_a16 := Eq.refl (k3w x0 x1 x2 x3 x4 x5 x6 x7 x8 x9 x10)
        conv at r_a16 => rhs; simp only [k3w, cond_true, cond_false, Bool.cond_self, Bool.not_true, Bool.not_false, Bool.true_or, Bool.or_true, Bool.false_or, Bool.or_false, Bool.and_self, Bool.and_true, Bool.true_and, Bool.false_and, Bool.and_false, bne_self_eq_false, beq_self_eq_true, allT, t10, r0, r1, f1, f2, f3, f4, f5, f6, f7, f8, f9, f10, hS1, hS2, s1, u1, g1, g4, g6, g7, k10, m10, e1, e2, q1, q2, q3, q4, nA, nB, nC, nD, mE, k9, hM, r_a0, r_a1, r_a2, r_a3, r_a4, r_a5, r_a6, r_a7, r_a8, r_a9, r_a10, r_a11, r_a12, r_a13, r_a14, r_a15]
        have r_a17 := Eq.refl (k78 x0 x1 x2 x3 x4 x5 x6 x7 x8 x9 x10)
        conv at r_a17 => rhs; simp only [k78, cond_true, cond_false, Bool.cond_self, Bool.not_true, Bool.not_false, Bool.true_or, Bool.or_true, Bool.false_or, Bool.or_false, Bool.and_self, Bool.and_true, Bool.true_and, Bool.false_and, Bool.and_false, bne_self_eq_false, beq_self_eq_true, allT, t10, r0, r1, f1, f2, f3, f4, f5, f6, f7, f8, f9, f10, hS1, hS2, s1, u1, g1, g4, g6, g7, k10, m10, e1, e2, q1, q2, q3, q4, nA, nB, nC, nD, mE, k9, hM, r_a0, r_a1, r_a2, r_a3, r_a4, r_a5, r_a6, r_a7, r_a8, r_a9, r_a10, r_a11, r_a12, r_a13, r_a14, r_a15, r_a16]
        have r_a18 := Eq.refl (k5c x0 x1 x2 x3 x4 x5 x6 x7 x8 x9 x10)
        conv at r_a18 => rhs; simp only [k5c, cond_true, cond_false, Bool.cond_self, Bool.not_true, Bool.not_false, Bool.true_or, Bool.or_true, Bool.false_or, Bool.or_false, Bool.and_self, Bool.and_true, Bool.true_and, Bool.false_and, Bool.and_false, bne_self_eq_false, beq_self_eq_true, allT, t10, r0, r1, f1, f2, f3, f4, f5, f6, f7, f8, f9, f10, hS1, hS2, s1, u1, g1, g4, g6, g7, k10, m10, e1, e2, q1, q2, q3, q4, nA, nB, nC, nD, mE, k9, hM, r_a0, r_a1, r_a2, r_a3, r_a4, r_a5, r_a6, r_a7, r_a8, r_a9, r_a10, r_a11, r_a12, r_a13, r_a14, r_a15, r_a16, r_a17]
        have r_a19 := Eq.refl (k76 x0 x1 x2 x3 x4 x5 x6 x7 x8 x9 x10)
        conv at r_a19 => rhs; simp only [k76, cond_true, cond_false, Bool.cond_self, Bool.not_true, Bool.not_false, Bool.true_or, Bool.or_true, Bool.false_or, Bool.or_false, Bool.and_self, Bool.and_true, Bool.true_and, Bool.false_and, Bool.and_false, bne_self_eq_false, beq_self_eq_true, allT, t10, r0, r1, f1, f2, f3, f4, f5, f6, f7, f8, f9, f10, hS1, hS2, s1, u1, g1, g4, g6, g7, k10, m10, e1, e2, q1, q2, q3, q4, nA, nB, nC, nD, mE, k9, hM, r_a0, r_a1, r_a2, r_a3, r_a4, r_a5, r_a6, r_a7, r_a8, r_a9, r_a10, r_a11, r_a12, r_a13, r_a14, r_a15, r_a16, r_a17, r_a18]
        have r_a20 := Eq.refl (k75 x0 x1 x2 x3 x4 x5 x6 x7 x8 x9 x10)
        conv at r_a20 => rhs; simp only [k75, cond_true, cond_false, Bool.cond_self, Bool.not_true, Bool.not_false, Bool.true_or, Bool.or_true, Bool.false_or, Bool.or_false, Bool.and_self, Bool.and_true, Bool.true_and, Bool.false_and, Bool.and_false, bne_self_eq_false, beq_self_eq_true, allT, t10, r0, r1, f1, f2, f3, f4, f5, f6, f7, f8, f9, f10, hS1, hS2, s1, u1, g1, g4, g6, g7, k10, m10, e1, e2, q1, q2, q3, q4, nA, nB, nC, nD, mE, k9, hM, r_a0, r_a1, r_a2, r_a3, r_a4, r_a5, r_a6, r_a7, r_a8, r_a9, r_a10, r_a11, r_a12, r_a13, r_a14, r_a15, r_a16, r_a17, r_a18, r_a19]
        have r_a21 := Eq.refl (k28 x0 x1 x2 x3 x4 x5 x6 x7 x8 x9 x10)
        conv at r_a21 => rhs; simp only [k28, cond_true, cond_false, Bool.cond_self, Bool.not_true, Bool.not_false, Bool.true_or, Bool.or_true, Bool.false_or, Bool.or_false, Bool.and_self, Bool.and_true, Bool.true_and, Bool.false_and, Bool.and_false, bne_self_eq_false, beq_self_eq_true, allT, t10, r0, r1, f1, f2, f3, f4, f5, f6, f7, f8, f9, f10, hS1, hS2, s1, u1, g1, g4, g6, g7, k10, m10, e1, e2, q1, q2, q3, q4, nA, nB, nC, nD, mE, k9, hM, r_a0, r_a1, r_a2, r_a3, r_a4, r_a5, r_a6, r_a7, r_a8, r_a9, r_a10, r_a11, r_a12, r_a13, r_a14, r_a15, r_a16, r_a17, r_a18, r_a19, r_a20]
        have r_a22 := Eq.refl (k2a x0 x1 x2 x3 x4 x5 x6 x7 x8 x9 x10)
        conv at r_a22 => rhs; simp only [k2a, cond_true, cond_false, Bool.cond_self, Bool.not_true, Bool.not_false, Bool.true_or, Bool.or_true, Bool.false_or, Bool.or_false, Bool.and_self, Bool.and_true, Bool.true_and, Bool.false_and, Bool.and_false, bne_self_eq_false, beq_self_eq_true, allT, t10, r0, r1, f1, f2, f3, f4, f5, f6, f7, f8, f9, f10, hS1, hS2, s1, u1, g1, g4, g6, g7, k10, m10, e1, e2, q1, q2, q3, q4, nA, nB, nC, nD, mE, k9, hM, r_a0, r_a1, r_a2, r_a3, r_a4, r_a5, r_a6, r_a7, r_a8, r_a9, r_a10, r_a11, r_a12, r_a13, r_a14, r_a15, r_a16, r_a17, r_a18, r_a19, r_a20, r_a21]
        have r_a23 := Eq.refl (k79 x4 x5 x6 x7 x8 x9 x10)
        conv at r_a23 => rhs; simp only [k79, cond_true, cond_false, Bool.cond_self, Bool.not_true, Bool.not_false, Bool.true_or, Bool.or_true, Bool.false_or, Bool.or_false, Bool.and_self, Bool.and_true, Bool.true_and, Bool.false_and, Bool.and_false, bne_self_eq_false, beq_self_eq_true, allT, t10, r0, r1, f1, f2, f3, f4, f5, f6, f7, f8, f9, f10, hS1, hS2, s1, u1, g1, g4, g6, g7, k10, m10, e1, e2, q1, q2, q3, q4, nA, nB, nC, nD, mE, k9, hM, r_a0, r_a1, r_a2, r_a3, r_a4, r_a5, r_a6, r_a7, r_a8, r_a9, r_a10, r_a11, r_a12, r_a13, r_a14, r_a15, r_a16, r_a17, r_a18, r_a19, r_a20, r_a21, r_a22]
        have r_a24 := Eq.refl (k74 x4 x5 x6 x7 x8 x9 x10)
        conv at r_a24 => rhs; simp only [k74, cond_true, cond_false, Bool.cond_self, Bool.not_true, Bool.not_false, Bool.true_or, Bool.or_true, Bool.false_or, Bool.or_false, Bool.and_self, Bool.and_true, Bool.true_and, Bool.false_and, Bool.and_false, bne_self_eq_false, beq_self_eq_true, allT, t10, r0, r1, f1, f2, f3, f4, f5, f6, f7, f8, f9, f10, hS1, hS2, s1, u1, g1, g4, g6, g7, k10, m10, e1, e2, q1, q2, q3, q4, nA, nB, nC, nD, mE, k9, hM, r_a0, r_a1, r_a2, r_a3, r_a4, r_a5, r_a6, r_a7, r_a8, r_a9, r_a10, r_a11, r_a12, r_a13, r_a14, r_a15, r_a16, r_a17, r_a18, r_a19, r_a20, r_a21, r_a22, r_a23]
        have r_a25 := Eq.refl (k73 x4 x5 x6 x7 x8 x9 x10)
        conv at r_a25 => rhs; simp only [k73, cond_true, cond_false, Bool.cond_self, Bool.not_true, Bool.not_false, Bool.true_or, Bool.or_true, Bool.false_or, Bool.or_false, Bool.and_self, Bool.and_true, Bool.true_and, Bool.false_and, Bool.and_false, bne_self_eq_false, beq_self_eq_true, allT, t10, r0, r1, f1, f2, f3, f4, f5, f6, f7, f8, f9, f10, hS1, hS2, s1, u1, g1, g4, g6, g7, k10, m10, e1, e2, q1, q2, q3, q4, nA, nB, nC, nD, mE, k9, hM, r_a0, r_a1, r_a2, r_a3, r_a4, r_a5, r_a6, r_a7, r_a8, r_a9, r_a10, r_a11, r_a12, r_a13, r_a14, r_a15, r_a16, r_a17, r_a18, r_a19, r_a20, r_a21, r_a22, r_a23, r_a24]
        have r_a26 := Eq.refl (k7b x4 x6 x7 x8 x9 x10)
        conv at r_a26 => rhs; simp only [k7b, cond_true, cond_false, Bool.cond_self, Bool.not_true, Bool.not_false, Bool.true_or, Bool.or_true, Bool.false_or, Bool.or_false, Bool.and_self, Bool.and_true, Bool.true_and, Bool.false_and, Bool.and_false, bne_self_eq_false, beq_self_eq_true, allT, t10, r0, r1, f1, f2, f3, f4, f5, f6, f7, f8, f9, f10, hS1, hS2, s1, u1, g1, g4, g6, g7, k10, m10, e1, e2, q1, q2, q3, q4, nA, nB, nC, nD, mE, k9, hM, r_a0, r_a1, r_a2, r_a3, r_a4, r_a5, r_a6, r_a7, r_a8, r_a9, r_a10, r_a11, r_a12, r_a13, r_a14, r_a15, r_a16, r_a17, r_a18, r_a19, r_a20, r_a21, r_a22, r_a23, r_a24, r_a25]
        have r_a27 := Eq.refl (k5a x0 x1 x2 x3 x4 x5 x6 x7 x8 x9 x10)
        conv at r_a27 => rhs; simp only [k5a, cond_true, cond_false, Bool.cond_self, Bool.not_true, Bool.not_false, Bool.true_or, Bool.or_true, Bool.false_or, Bool.or_false, Bool.and_self, Bool.and_true, Bool.true_and, Bool.false_and, Bool.and_false, bne_self_eq_false, beq_self_eq_true, allT, t10, r0, r1, f1, f2, f3, f4, f5, f6, f7, f8, f9, f10, hS1, hS2, s1, u1, g1, g4, g6, g7, k10, m10, e1, e2, q1, q2, q3, q4, nA, nB, nC, nD, mE, k9, hM, r_a0, r_a1, r_a2, r_a3, r_a4, r_a5, r_a6, r_a7, r_a8, r_a9, r_a10, r_a11, r_a12, r_a13, r_a14, r_a15, r_a16, r_a17, r_a18, r_a19, r_a20, r_a21, r_a22, r_a23, r_a24, r_a25, r_a26]
        have r_a28 := Eq.refl (k7a x0 x1 x2 x3 x4 x5 x6 x7 x8 x9 x10)
        conv at r_a28 => rhs; simp only [k7a, cond_true, cond_false, Bool.cond_self, Bool.not_true, Bool.not_false, Bool.true_or, Bool.or_true, Bool.false_or, Bool.or_false, Bool.and_self, Bool.and_true, Bool.true_and, Bool.false_and, Bool.and_false, bne_self_eq_false, beq_self_eq_true, allT, t10, r0, r1, f1, f2, f3, f4, f5, f6, f7, f8, f9, f10, hS1, hS2, s1, u1, g1, g4, g6, g7, k10, m10, e1, e2, q1, q2, q3, q4, nA, nB, nC, nD, mE, k9, hM, r_a0, r_a1, r_a2, r_a3, r_a4, r_a5, r_a6, r_a7, r_a8, r_a9, r_a10, r_a11, r_a12, r_a13, r_a14, r_a15, r_a16, r_a17, r_a18, r_a19, r_a20, r_a21, r_a22, r_a23, r_a24, r_a25, r_a26, r_a27]
        refine ⟨?_, ?_⟩ <;> simp only [kb7, kb5, cond_true, cond_false, Bool.cond_self, Bool.not_true, Bool.not_false, Bool.true_or, Bool.or_true, Bool.false_or, Bool.or_false, Bool.and_self, Bool.and_true, Bool.true_and, Bool.false_and, Bool.and_false, bne_self_eq_false, beq_self_eq_true, allT, t10, r0, r1, f1, f2, f3, f4, f5, f6, f7, f8, f9, f10, hS1, hS2, s1, u1, g1, g4, g6, g7, k10, m10, e1, e2, q1, q2, q3, q4, nA, nB, nC, nD, mE, k9, hM, r_a0, r_a1, r_a2, r_a3, r_a4, r_a5, r_a6, r_a7, r_a8, r_a9, r_a10, r_a11, r_a12, r_a13, r_a14, r_a15, r_a16, r_a17, r_a18, r_a19, r_a20, r_a21, r_a22, r_a23, r_a24, r_a25, r_a26, r_a27, r_a28]

theorem k13x (x0 x1 x2 : Int) (x4 : List TM) (x5 : List IN) (x3 : Int) (x6 x7 x8 : List Int) (x9 : List BS3) (x10 : List Int) (w4 : wfD (.sl 22 (.pair (.int .i64) (.pair (.str) (.int .i64)))) x4) (w5 : wfD (.sl 23 (.pair (.int .i64) (.int .i64))) x5) (w6 : wfD (.sl 2 (.int .i64)) x6) (w7 : wfD (.sl 2 (.int .i64)) x7) (w8 : wfD (.sl 2 (.int .i64)) x8) (w9 : wfD (.sl 42 (.pair (.int .i64) (.pair (.int .i64) (.int .i64)))) x9) (w10 : wfD (.sl 2 (.int .i64)) x10) :
    k9p x0 x1 x2 x3 x4 x5 x6 x7 x8 x9 x10 = true ∧ k9o x0 x1 x2 x3 x4 x5 x6 x7 x8 x9 x10 = true := by
  have l4 : x4.length ≤ 9223372036854775807 := w4.1
  have l5 : x5.length ≤ 9223372036854775807 := w5.1
  have l6 : x6.length ≤ 9223372036854775807 := w6.1
  have l7 : x7.length ≤ 9223372036854775807 := w7.1
  have l8 : x8.length ≤ 9223372036854775807 := w8.1
  have l9 : x9.length ≤ 9223372036854775807 := w9.1
  have l10 : x10.length ≤ 9223372036854775807 := w10.1
  have hs : ∀ t ∈ x4, t.2.1.size ≤ 9223372036854775807 := fun t ht => (w4.2 t ht).2.1
  cases h10 : ltI 1048576 (x10.length : Int) with
  | true => simp [k9p, k9o, k3g, k2r, k2q, k2p, k6m, k6o, k6l, kq, k5z, k2j, k1s, k2i, k5q, k2y, k5x, k3e, k5v, k4a, k5w, k5y, k21, k22, k5s, k60, k5r, k5p, k47, k5u, h10, allT]
  | false =>
    have h10' : x10.length ≤ 1048576 := by
      rcases Nat.lt_or_ge 1048576 x10.length with h | h
      · rw [ltI_t (by omega)] at h10; cases h10
      · exact h
    have t10 : ltI 1048576 (x10.length : Int) = false := h10
    obtain ⟨s1, s2⟩ := k14r (k := 1048576) l4 l5 hs (by omega) (by omega)
    cases h1 : ltI (k8a 1048576 x4 x5) 0 with
    | true => simp [k9p, k9o, ki, k3g, k2r, k2q, k2p, k6m, k6o, k6l, kq, k5z, k2j, k1s, k2i, k5q, k2y, k5x, k3e, k5v, k4a, k5w, k5y, k21, k22, k5s, k60, k5r, k5p, k47, k5u, h1, h10, s1, allT]
    | false =>
      obtain ⟨⟨c0, c1⟩, c2⟩ := s2 h1
      obtain ⟨u1, u2⟩ := k14o (k := k8a 1048576 x4 x5) l6 l7 l8 l9 (by omega) c1
      cases h2 : ltI (ke8 (k8a 1048576 x4 x5) x6 x7 x8 x9) 0 with
      | true => simp [k9p, k9o, ki, km, k3g, k2r, k2q, k2p, k6m, k6o, k6l, kq, k5z, k2j, k1s, k2i, k5q, k2y, k5x, k3e, k5v, k4a, k5w, k5y, k21, k22, k5s, k60, k5r, k5p, k47, k5u, h1, h2, h10, s1, u1, allT]
      | false =>
        obtain ⟨d2, d0⟩ := u2 h2
        have r0 := h1
        have r1 := h2
        have k4 : leN x4.length 1048576 = true := leN_t (by omega)
        have k5 : leN x5.length 1048576 = true := leN_t (by omega)
        have k6 : leN x6.length 1048576 = true := leN_t (by omega)
        have k7 : leN x7.length 1048576 = true := leN_t (by omega)
        have k8 : leN x8.length 1048576 = true := leN_t (by omega)
        have k9 : leN x9.length 1048576 = true := leN_t (by omega)
        have k10 : leN x10.length 1048576 = true := leN_t (by omega)
        have m4 : leN x4.length 9223372036854775807 = true := leN_t l4
        have m5 : leN x5.length 9223372036854775807 = true := leN_t l5
        have m10 : leN x10.length 9223372036854775807 = true := leN_t l10
        have hS1 : mhNd x4 x6 x7 x8 [x10] = true := by simp only [mhNd, listNd, k6, k7, k8, m10, k16d.2 ⟨l4, hs⟩, List.all_cons, List.all_nil, Bool.and_true, Bool.true_and, List.length_singleton]; rfl
        have hS2 : (mhNd x4 x6 x7 x8 [x10] && leN x9.length 1048576) = true := by rw [hS1, k9]; rfl
        obtain ⟨n1, n2, n3, n4⟩ := sf_len x0 x1 x2 x4 x5 x3 x6 x7 x8 x9 x10
        generalize hM : sfM x0 x1 x2 x4 x5 x3 x6 x7 x8 x9 x10 = M at n1 n2 n3 n4
        obtain ⟨mk, A, B, C, D⟩ := M
        simp only at n1 n2 n3 n4
        obtain ⟨e1, e2⟩ := ktz mk A B C D (by omega) (by omega) (by omega) (by omega)
        obtain ⟨g1, g2, g3⟩ := k167 x4 x5 (by omega)
        obtain ⟨g4, _, _, _, g5⟩ := kvc (k92 1 x4 x5) x6 x7 x8 x9 g2 (by omega)
        obtain ⟨q1, q2, q3, q4, _⟩ := kvc 1 A B C D (by omega) (by omega)
        have f1 : k1w x0 x1 x2 x0 x1 x2 x4 x5 x4 x5 = true := by simp [k1w, k148, k16k]
        have f2 : kod x0 x1 x2 x0 x1 x2 x4 x5 x4 = true := by simp [kod, k148, m4, m5, allT]
        obtain ⟨f3, f4⟩ := ktz x3 x6 x7 x8 x9 l6 l7 l8 l9
        have f5 : kgi x4 x5 = true := by simp only [kgi, k4, k5, allT, cond_true]
        have f6 : kbj x6 x7 x8 x9 = true := by simp only [kbj, k6, k7, k8, k9, allT, cond_true]
        have f7 : eqL x10 x10 = true := k16b x10
        have g6 : mkOk (k4c (k92 1 x4 x5) x6 x7 x8 x9) x10.length = true := k10s.2 (by rw [g5]; omega)
        have g7 : ltI (k4c (k92 1 x4 x5) x6 x7 x8 x9 + (x10.length : Int)) 0 = false := ltI_f (by rw [g5]; omega)
        have f8 := f1
        have f9 := f3
        have f10 := f7
        have nA : leN A.length 9223372036854775807 = true := leN_t (by omega)
        have nB : leN B.length 9223372036854775807 = true := leN_t (by omega)
        have nC : leN C.length 9223372036854775807 = true := leN_t (by omega)
        have nD : leN D.length 9223372036854775807 = true := leN_t (by omega)
        have mE := m10
        have r_a0 := Eq.refl (ki x4 x5)
        conv at r_a0 => rhs; simp only [ki, cond_true, cond_false, Bool.cond_self, Bool.not_true, Bool.not_false, Bool.true_or, Bool.or_true, Bool.false_or, Bool.or_false, Bool.and_self, Bool.and_true, Bool.true_and, Bool.false_and, Bool.and_false, bne_self_eq_false, beq_self_eq_true, allT, t10, r0, r1, f1, f2, f3, f4, f5, f6, f7, f8, f9, f10, hS1, hS2, s1, u1, g1, g4, g6, g7, k10, m10, e1, e2, q1, q2, q3, q4, nA, nB, nC, nD, mE, k9, hM]
        have r_a1 := Eq.refl (km x4 x5 x6 x7 x8 x9)
        conv at r_a1 => rhs; simp only [km, cond_true, cond_false, Bool.cond_self, Bool.not_true, Bool.not_false, Bool.true_or, Bool.or_true, Bool.false_or, Bool.or_false, Bool.and_self, Bool.and_true, Bool.true_and, Bool.false_and, Bool.and_false, bne_self_eq_false, beq_self_eq_true, allT, t10, r0, r1, f1, f2, f3, f4, f5, f6, f7, f8, f9, f10, hS1, hS2, s1, u1, g1, g4, g6, g7, k10, m10, e1, e2, q1, q2, q3, q4, nA, nB, nC, nD, mE, k9, hM, r_a0]
        have r_a2 := Eq.refl (k3g x0 x1 x2 x3 x4 x5 x6 x7 x8 x9 x10)
        conv at r_a2 => rhs; simp only [k3g, cond_true, cond_false, Bool.cond_self, Bool.not_true, Bool.not_false, Bool.true_or, Bool.or_true, Bool.false_or, Bool.or_false, Bool.and_self, Bool.and_true, Bool.true_and, Bool.false_and, Bool.and_false, bne_self_eq_false, beq_self_eq_true, allT, t10, r0, r1, f1, f2, f3, f4, f5, f6, f7, f8, f9, f10, hS1, hS2, s1, u1, g1, g4, g6, g7, k10, m10, e1, e2, q1, q2, q3, q4, nA, nB, nC, nD, mE, k9, hM, r_a0, r_a1]
        have r_a3 := Eq.refl (k2r x0 x1 x2 x3 x4 x5 x6 x7 x8 x9 x10)
        conv at r_a3 => rhs; simp only [k2r, cond_true, cond_false, Bool.cond_self, Bool.not_true, Bool.not_false, Bool.true_or, Bool.or_true, Bool.false_or, Bool.or_false, Bool.and_self, Bool.and_true, Bool.true_and, Bool.false_and, Bool.and_false, bne_self_eq_false, beq_self_eq_true, allT, t10, r0, r1, f1, f2, f3, f4, f5, f6, f7, f8, f9, f10, hS1, hS2, s1, u1, g1, g4, g6, g7, k10, m10, e1, e2, q1, q2, q3, q4, nA, nB, nC, nD, mE, k9, hM, r_a0, r_a1, r_a2]
        have r_a4 := Eq.refl (k2q x0 x1 x2 x3 x4 x5 x6 x7 x8 x9 x10)
        conv at r_a4 => rhs; simp only [k2q, cond_true, cond_false, Bool.cond_self, Bool.not_true, Bool.not_false, Bool.true_or, Bool.or_true, Bool.false_or, Bool.or_false, Bool.and_self, Bool.and_true, Bool.true_and, Bool.false_and, Bool.and_false, bne_self_eq_false, beq_self_eq_true, allT, t10, r0, r1, f1, f2, f3, f4, f5, f6, f7, f8, f9, f10, hS1, hS2, s1, u1, g1, g4, g6, g7, k10, m10, e1, e2, q1, q2, q3, q4, nA, nB, nC, nD, mE, k9, hM, r_a0, r_a1, r_a2, r_a3]
        have r_a5 := Eq.refl (k2p x0 x1 x2 x3 x4 x5 x6 x7 x8 x9 x10)
        conv at r_a5 => rhs; simp only [k2p, cond_true, cond_false, Bool.cond_self, Bool.not_true, Bool.not_false, Bool.true_or, Bool.or_true, Bool.false_or, Bool.or_false, Bool.and_self, Bool.and_true, Bool.true_and, Bool.false_and, Bool.and_false, bne_self_eq_false, beq_self_eq_true, allT, t10, r0, r1, f1, f2, f3, f4, f5, f6, f7, f8, f9, f10, hS1, hS2, s1, u1, g1, g4, g6, g7, k10, m10, e1, e2, q1, q2, q3, q4, nA, nB, nC, nD, mE, k9, hM, r_a0, r_a1, r_a2, r_a3, r_a4]
        have r_a6 := Eq.refl (k6m x0 x1 x2 x3 x4 x5 x6 x7 x8 x9 x10)
        conv at r_a6 => rhs; simp only [k6m, cond_true, cond_false, Bool.cond_self, Bool.not_true, Bool.not_false, Bool.true_or, Bool.or_true, Bool.false_or, Bool.or_false, Bool.and_self, Bool.and_true, Bool.true_and, Bool.false_and, Bool.and_false, bne_self_eq_false, beq_self_eq_true, allT, t10, r0, r1, f1, f2, f3, f4, f5, f6, f7, f8, f9, f10, hS1, hS2, s1, u1, g1, g4, g6, g7, k10, m10, e1, e2, q1, q2, q3, q4, nA, nB, nC, nD, mE, k9, hM, r_a0, r_a1, r_a2, r_a3, r_a4, r_a5]
        have r_a7 := Eq.refl (k6o x0 x1 x2 x3 x4 x5 x6 x7 x8 x9 x10)
        conv at r_a7 => rhs; simp only [k6o, cond_true, cond_false, Bool.cond_self, Bool.not_true, Bool.not_false, Bool.true_or, Bool.or_true, Bool.false_or, Bool.or_false, Bool.and_self, Bool.and_true, Bool.true_and, Bool.false_and, Bool.and_false, bne_self_eq_false, beq_self_eq_true, allT, t10, r0, r1, f1, f2, f3, f4, f5, f6, f7, f8, f9, f10, hS1, hS2, s1, u1, g1, g4, g6, g7, k10, m10, e1, e2, q1, q2, q3, q4, nA, nB, nC, nD, mE, k9, hM, r_a0, r_a1, r_a2, r_a3, r_a4, r_a5, r_a6]
        have r_a8 := Eq.refl (k6l x0 x1 x2 x3 x4 x5 x6 x7 x8 x9 x10)
        conv at r_a8 => rhs; simp only [k6l, cond_true, cond_false, Bool.cond_self, Bool.not_true, Bool.not_false, Bool.true_or, Bool.or_true, Bool.false_or, Bool.or_false, Bool.and_self, Bool.and_true, Bool.true_and, Bool.false_and, Bool.and_false, bne_self_eq_false, beq_self_eq_true, allT, t10, r0, r1, f1, f2, f3, f4, f5, f6, f7, f8, f9, f10, hS1, hS2, s1, u1, g1, g4, g6, g7, k10, m10, e1, e2, q1, q2, q3, q4, nA, nB, nC, nD, mE, k9, hM, r_a0, r_a1, r_a2, r_a3, r_a4, r_a5, r_a6, r_a7]
        have r_a9 := Eq.refl (kq x0 x1 x2 x3 x4 x5 x6 x7 x8 x9 x10)
        conv at r_a9 => rhs; simp only [kq, cond_true, cond_false, Bool.cond_self, Bool.not_true, Bool.not_false, Bool.true_or, Bool.or_true, Bool.false_or, Bool.or_false, Bool.and_self, Bool.and_true, Bool.true_and, Bool.false_and, Bool.and_false, bne_self_eq_false, beq_self_eq_true, allT, t10, r0, r1, f1, f2, f3, f4, f5, f6, f7, f8, f9, f10, hS1, hS2, s1, u1, g1, g4, g6, g7, k10, m10, e1, e2, q1, q2, q3, q4, nA, nB, nC, nD, mE, k9, hM, r_a0, r_a1, r_a2, r_a3, r_a4, r_a5, r_a6, r_a7, r_a8]
        have r_a10 := Eq.refl (k5z x4 x5 x6 x7 x8 x9)
        conv at r_a10 => rhs; simp only [k5z, cond_true, cond_false, Bool.cond_self, Bool.not_true, Bool.not_false, Bool.true_or, Bool.or_true, Bool.false_or, Bool.or_false, Bool.and_self, Bool.and_true, Bool.true_and, Bool.false_and, Bool.and_false, bne_self_eq_false, beq_self_eq_true, allT, t10, r0, r1, f1, f2, f3, f4, f5, f6, f7, f8, f9, f10, hS1, hS2, s1, u1, g1, g4, g6, g7, k10, m10, e1, e2, q1, q2, q3, q4, nA, nB, nC, nD, mE, k9, hM, r_a0, r_a1, r_a2, r_a3, r_a4, r_a5, r_a6, r_a7, r_a8, r_a9]
        have r_a11 := Eq.refl (k2j x4 x5 x6 x7 x8 x9 x10)
        conv at r_a11 => rhs; simp only [k2j, cond_true, cond_false, Bool.cond_self, Bool.not_true, Bool.not_false, Bool.true_or, Bool.or_true, Bool.false_or, Bool.or_false, Bool.and_self, Bool.and_true, Bool.true_and, Bool.false_and, Bool.and_false, bne_self_eq_false, beq_self_eq_true, allT, t10, r0, r1, f1, f2, f3, f4, f5, f6, f7, f8, f9, f10, hS1, hS2, s1, u1, g1, g4, g6, g7, k10, m10, e1, e2, q1, q2, q3, q4, nA, nB, nC, nD, mE, k9, hM, r_a0, r_a1, r_a2, r_a3, r_a4, r_a5, r_a6, r_a7, r_a8, r_a9, r_a10]
        have r_a12 := Eq.refl (k1s x0 x1 x2 x3 x4 x5 x6 x7 x8 x9 x10)
        conv at r_a12 => rhs; simp only [k1s, cond_true, cond_false, Bool.cond_self, Bool.not_true, Bool.not_false, Bool.true_or, Bool.or_true, Bool.false_or, Bool.or_false, Bool.and_self, Bool.and_true, Bool.true_and, Bool.false_and, Bool.and_false, bne_self_eq_false, beq_self_eq_true, allT, t10, r0, r1, f1, f2, f3, f4, f5, f6, f7, f8, f9, f10, hS1, hS2, s1, u1, g1, g4, g6, g7, k10, m10, e1, e2, q1, q2, q3, q4, nA, nB, nC, nD, mE, k9, hM, r_a0, r_a1, r_a2, r_a3, r_a4, r_a5, r_a6, r_a7, r_a8, r_a9, r_a10, r_a11]
        have r_a13 := Eq.refl (k2i x0 x1 x2 x3 x4 x5 x6 x7 x8 x9 x10)
        conv at r_a13 => rhs; simp only [k2i, cond_true, cond_false, Bool.cond_self, Bool.not_true, Bool.not_false, Bool.true_or, Bool.or_true, Bool.false_or, Bool.or_false, Bool.and_self, Bool.and_true, Bool.true_and, Bool.false_and, Bool.and_false, bne_self_eq_false, beq_self_eq_true, allT, t10, r0, r1, f1, f2, f3, f4, f5, f6, f7, f8, f9, f10, hS1, hS2, s1, u1, g1, g4, g6, g7, k10, m10, e1, e2, q1, q2, q3, q4, nA, nB, nC, nD, mE, k9, hM, r_a0, r_a1, r_a2, r_a3, r_a4, r_a5, r_a6, r_a7, r_a8, r_a9, r_a10, r_a11, r_a12]
        have r_a14 := Eq.refl (k5q x0 x1 x2 x3 x4 x5 x6 x7 x8 x9 x10)
        conv at r_a14 => rhs; simp only [k5q, cond_true, cond_false, Bool.cond_self, Bool.not_true, Bool.not_false, Bool.true_or, Bool.or_true, Bool.false_or, Bool.or_false, Bool.and_self, Bool.and_true, Bool.true_and, Bool.false_and, Bool.and_false, bne_self_eq_false, beq_self_eq_true, allT, t10, r0, r1, f1, f2, f3, f4, f5, f6, f7, f8, f9, f10, hS1, hS2, s1, u1, g1, g4, g6, g7, k10, m10, e1, e2, q1, q2, q3, q4, nA, nB, nC, nD, mE, k9, hM, r_a0, r_a1, r_a2, r_a3, r_a4, r_a5, r_a6, r_a7, r_a8, r_a9, r_a10, r_a11, r_a12, r_a13]
        have r_a15 := Eq.refl (k2y x0 x1 x2 x3 x4 x5 x6 x7 x8 x9 x10)
        conv at r_a15 => rhs; simp only [k2y, cond_true, cond_false, Bool.cond_self, Bool.not_true, Bool.not_false, Bool.true_or, Bool.or_true, Bool.false_or, Bool.or_false, Bool.and_self, Bool.and_true, Bool.true_and, Bool.false_and, Bool.and_false, bne_self_eq_false, beq_self_eq_true, allT, t10, r0, r1, f1, f2, f3, f4, f5, f6, f7, f8, f9, f10, hS1, hS2, s1, u1, g1, g4, g6, g7, k10, m10, e1, e2, q1, q2, q3, q4, nA, nB, nC, nD, mE, k9, hM, r_a0, r_a1, r_a2, r_a3, r_a4, r_a5, r_a6, r_a7, r_a8, r_a9, r_a10, r_a11, r_a12, r_a13, r_a14]
        have r_a16 := Eq.refl (k5x x0 x1 x2 x3 x4 x5 x6 x7 x8 x9 x10)
        conv at r_a16 => rhs; simp only [k5x, cond_true, cond_false, Bool.cond_self, Bool.not_true, Bool.not_false, Bool.true_or, Bool.or_true, Bool.false_or, Bool.or_false, Bool.and_self, Bool.and_true, Bool.true_and, Bool.false_and, Bool.and_false, bne_self_eq_false, beq_self_eq_true, allT, t10, r0, r1, f1, f2, f3, f4, f5, f6, f7, f8, f9, f10, hS1, hS2, s1, u1, g1, g4, g6, g7, k10, m10, e1, e2, q1, q2, q3, q4, nA, nB, nC, nD, mE, k9, hM, r_a0, r_a1, r_a2, r_a3, r_a4, r_a5, r_a6, r_a7, r_a8, r_a9, r_a10, r_a11, r_a12, r_a13, r_a14, r_a15]
        have r_a17 := Eq.refl (k3e x0 x1 x2 x3 x4 x5 x6 x7 x8 x9 x10)
        conv at r_a17 => rhs; simp only [k3e, cond_true, cond_false, Bool.cond_self, Bool.not_true, Bool.not_false, Bool.true_or, Bool.or_true, Bool.false_or, Bool.or_false, Bool.and_self, Bool.and_true, Bool.true_and, Bool.false_and, Bool.and_false, bne_self_eq_false, beq_self_eq_true, allT, t10, r0, r1, f1, f2, f3, f4, f5, f6, f7, f8, f9, f10, hS1, hS2, s1, u1, g1, g4, g6, g7, k10, m10, e1, e2, q1, q2, q3, q4, nA, nB, nC, nD, mE, k9, hM, r_a0, r_a1, r_a2, r_a3, r_a4, r_a5, r_a6, r_a7, r_a8, r_a9, r_a10, r_a11, r_a12, r_a13, r_a14, r_a15, r_a16]
        have r_a18 := Eq.refl (k5v x0 x1 x2 x3 x4 x5 x6 x7 x8 x9 x10)
        conv at r_a18 => rhs; simp only [k5v, cond_true, cond_false, Bool.cond_self, Bool.not_true, Bool.not_false, Bool.true_or, Bool.or_true, Bool.false_or, Bool.or_false, Bool.and_self, Bool.and_true, Bool.true_and, Bool.false_and, Bool.and_false, bne_self_eq_false, beq_self_eq_true, allT, t10, r0, r1, f1, f2, f3, f4, f5, f6, f7, f8, f9, f10, hS1, hS2, s1, u1, g1, g4, g6, g7, k10, m10, e1, e2, q1, q2, q3, q4, nA, nB, nC, nD, mE, k9, hM, r_a0, r_a1, r_a2, r_a3, r_a4, r_a5, r_a6, r_a7, r_a8, r_a9, r_a10, r_a11, r_a12, r_a13, r_a14, r_a15, r_a16, r_a17]
        have r_a19 := Eq.refl (k4a x0 x1 x2 x3 x4 x5 x6 x7 x8 x9 x10)
        conv at r_a19 => rhs; simp only [k4a, cond_true, cond_false, Bool.cond_self, Bool.not_true, Bool.not_false, Bool.true_or, Bool.or_true, Bool.false_or, Bool.or_false, Bool.and_self, Bool.and_true, Bool.true_and, Bool.false_and, Bool.and_false, bne_self_eq_false, beq_self_eq_true, allT, t10, r0, r1, f1, f2, f3, f4, f5, f6, f7, f8, f9, f10, hS1, hS2, s1, u1, g1, g4, g6, g7, k10, m10, e1, e2, q1, q2, q3, q4, nA, nB, nC, nD, mE, k9, hM, r_a0, r_a1, r_a2, r_a3, r_a4, r_a5, r_a6, r_a7, r_a8, r_a9, r_a10, r_a11, r_a12, r_a13, r_a14, r_a15, r_a16, r_a17, r_a18]
        have r_a20 := Eq.refl (k5w x0 x1 x2 x3 x4 x5 x6 x7 x8 x9 x10)
        conv at r_a20 => rhs; simp only [k5w, cond_true, cond_false, Bool.cond_self, Bool.not_true, Bool.not_false, Bool.true_or, Bool.or_true, Bool.false_or, Bool.or_false, Bool.and_self, Bool.and_true, Bool.true_and, Bool.false_and, Bool.and_false, bne_self_eq_false, beq_self_eq_true, allT, t10, r0, r1, f1, f2, f3, f4, f5, f6, f7, f8, f9, f10, hS1, hS2, s1, u1, g1, g4, g6, g7, k10, m10, e1, e2, q1, q2, q3, q4, nA, nB, nC, nD, mE, k9, hM, r_a0, r_a1, r_a2, r_a3, r_a4, r_a5, r_a6, r_a7, r_a8, r_a9, r_a10, r_a11, r_a12, r_a13, r_a14, r_a15, r_a16, r_a17, r_a18, r_a19]
        have r_a21 := Eq.refl (k5y x0 x1 x2 x3 x4 x5 x6 x7 x8 x9 x10)
        conv at r_a21 => rhs; simp only [k5y, cond_true, cond_false, Bool.cond_self, Bool.not_true, Bool.not_false, Bool.true_or, Bool.or_true, Bool.false_or, Bool.or_false, Bool.and_self, Bool.and_true, Bool.true_and, Bool.false_and, Bool.and_false, bne_self_eq_false, beq_self_eq_true, allT, t10, r0, r1, f1, f2, f3, f4, f5, f6, f7, f8, f9, f10, hS1, hS2, s1, u1, g1, g4, g6, g7, k10, m10, e1, e2, q1, q2, q3, q4, nA, nB, nC, nD, mE, k9, hM, r_a0, r_a1, r_a2, r_a3, r_a4, r_a5, r_a6, r_a7, r_a8, r_a9, r_a10, r_a11, r_a12, r_a13, r_a14, r_a15, r_a16, r_a17, r_a18, r_a19, r_a20]
        have r_a22 := Eq.refl (k21 x0 x1 x2 x3 x4 x5 x6 x7 x8 x9 x10)
        conv at r_a22 => rhs; simp only [k21, cond_true, cond_false, Bool.cond_self, Bool.not_true, Bool.not_false, Bool.true_or, Bool.or_true, Bool.false_or, Bool.or_false, Bool.and_self, Bool.and_true, Bool.true_and, Bool.false_and, Bool.and_false, bne_self_eq_false, beq_self_eq_true, allT, t10, r0, r1, f1, f2, f3, f4, f5, f6, f7, f8, f9, f10, hS1, hS2, s1, u1, g1, g4, g6, g7, k10, m10, e1, e2, q1, q2, q3, q4, nA, nB, nC, nD, mE, k9, hM, r_a0, r_a1, r_a2, r_a3, r_a4, r_a5, r_a6, r_a7, r_a8, r_a9, r_a10, r_a11, r_a12, r_a13, r_a14, r_a15, r_a16, r_a17, r_a18, r_a19, r_a20, r_a21]
        have r_a23 := Eq.refl (k22 x0 x1 x2 x3 x4 x5 x6 x7 x8 x9 x10)
        conv at r_a23 => rhs; simp only [k22, cond_true, cond_false, Bool.cond_self, Bool.not_true, Bool.not_false, Bool.true_or, Bool.or_true, Bool.false_or, Bool.or_false, Bool.and_self, Bool.and_true, Bool.true_and, Bool.false_and, Bool.and_false, bne_self_eq_false, beq_self_eq_true, allT, t10, r0, r1, f1, f2, f3, f4, f5, f6, f7, f8, f9, f10, hS1, hS2, s1, u1, g1, g4, g6, g7, k10, m10, e1, e2, q1, q2, q3, q4, nA, nB, nC, nD, mE, k9, hM, r_a0, r_a1, r_a2, r_a3, r_a4, r_a5, r_a6, r_a7, r_a8, r_a9, r_a10, r_a11, r_a12, r_a13, r_a14, r_a15, r_a16, r_a17, r_a18, r_a19, r_a20, r_a21, r_a22]
        have r_a24 := Eq.refl (k5s x4 x5 x6 x7 x8 x9 x10)
        conv at r_a24 => rhs; simp only [k5s, cond_true, cond_false, Bool.cond_self, Bool.not_true, Bool.not_false, Bool.true_or, Bool.or_true, Bool.false_or, Bool.or_false, Bool.and_self, Bool.and_true, Bool.true_and, Bool.false_and, Bool.and_false, bne_self_eq_false, beq_self_eq_true, allT, t10, r0, r1, f1, f2, f3, f4, f5, f6, f7, f8, f9, f10, hS1, hS2, s1, u1, g1, g4, g6, g7, k10, m10, e1, e2, q1, q2, q3, q4, nA, nB, nC, nD, mE, k9, hM, r_a0, r_a1, r_a2, r_a3, r_a4, r_a5, r_a6, r_a7, r_a8, r_a9, r_a10, r_a11, r_a12, r_a13, r_a14, r_a15, r_a16, r_a17, r_a18, r_a19, r_a20, r_a21, r_a22, r_a23]
        have r_a25 := Eq.refl (k60 x4 x5 x6 x7 x8 x9 x10)
        conv at r_a25 => rhs; simp only [k60, cond_true, cond_false, Bool.cond_self, Bool.not_true, Bool.not_false, Bool.true_or, Bool.or_true, Bool.false_or, Bool.or_false, Bool.and_self, Bool.and_true, Bool.true_and, Bool.false_and, Bool.and_false, bne_self_eq_false, beq_self_eq_true, allT, t10, r0, r1, f1, f2, f3, f4, f5, f6, f7, f8, f9, f10, hS1, hS2, s1, u1, g1, g4, g6, g7, k10, m10, e1, e2, q1, q2, q3, q4, nA, nB, nC, nD, mE, k9, hM, r_a0, r_a1, r_a2, r_a3, r_a4, r_a5, r_a6, r_a7, r_a8, r_a9, r_a10, r_a11, r_a12, r_a13, r_a14, r_a15, r_a16, r_a17, r_a18, r_a19, r_a20, r_a21, r_a22, r_a23, r_a24]
        have r_a26 := Eq.refl (k5r x4 x5 x6 x7 x8 x9 x10)
        conv at r_a26 => rhs; simp only [k5r, cond_true, cond_false, Bool.cond_self, Bool.not_true, Bool.not_false, Bool.true_or, Bool.or_true, Bool.false_or, Bool.or_false, Bool.and_self, Bool.and_true, Bool.true_and, Bool.false_and, Bool.and_false, bne_self_eq_false, beq_self_eq_true, allT, t10, r0, r1, f1, f2, f3, f4, f5, f6, f7, f8, f9, f10, hS1, hS2, s1, u1, g1, g4, g6, g7, k10, m10, e1, e2, q1, q2, q3, q4, nA, nB, nC, nD, mE, k9, hM, r_a0, r_a1, r_a2, r_a3, r_a4, r_a5, r_a6, r_a7, r_a8, r_a9, r_a10, r_a11, r_a12, r_a13, r_a14, r_a15, r_a16, r_a17, r_a18, r_a19, r_a20, r_a21, r_a22, r_a23, r_a24, r_a25]
        have r_a27 := Eq.refl (k5p x4 x6 x7 x8 x9 x10)
        conv at r_a27 => rhs; simp only [k5p, cond_true, cond_false, Bool.cond_self, Bool.not_true, Bool.not_false, Bool.true_or, Bool.or_true, Bool.false_or, Bool.or_false, Bool.and_self, Bool.and_true, Bool.true_and, Bool.false_and, Bool.and_false, bne_self_eq_false, beq_self_eq_true, allT, t10, r0, r1, f1, f2, f3, f4, f5, f6, f7, f8, f9, f10, hS1, hS2, s1, u1, g1, g4, g6, g7, k10, m10, e1, e2, q1, q2, q3, q4, nA, nB, nC, nD, mE, k9, hM, r_a0, r_a1, r_a2, r_a3, r_a4, r_a5, r_a6, r_a7, r_a8, r_a9, r_a10, r_a11, r_a12, r_a13, r_a14, r_a15, r_a16, r_a17, r_a18, r_a19, r_a20, r_a21, r_a22, r_a23, r_a24, r_a25, r_a26]
        have r_a28 := Eq.refl (k47 x0 x1 x2 x3 x4 x5 x6 x7 x8 x9 x10)
        conv at r_a28 => rhs; simp only [k47, cond_true, cond_false, Bool.cond_self, Bool.not_true, Bool.not_false, Bool.true_or, Bool.or_true, Bool.false_or, Bool.or_false, Bool.and_self, Bool.and_true, Bool.true_and, Bool.false_and, Bool.and_false, bne_self_eq_false, beq_self_eq_true, allT, t10, r0, r1, f1, f2, f3, f4, f5, f6, f7, f8, f9, f10, hS1, hS2, s1, u1, g1, g4, g6, g7, k10, m10, e1, e2, q1, q2, q3, q4, nA, nB, nC, nD, mE, k9, hM, r_a0, r_a1, r_a2, r_a3, r_a4, r_a5, r_a6, r_a7, r_a8, r_a9, r_a10, r_a11, r_a12, r_a13, r_a14, r_a15, r_a16, r_a17, r_a18, r_a19, r_a20, r_a21, r_a22, r_a23, r_a24, r_a25, r_a26, r_a27]
        have r_a29 := Eq.refl (k5u x0 x1 x2 x3 x4 x5 x6 x7 x8 x9 x10)
        conv at r_a29 => rhs; simp only [k5u, cond_true, cond_false, Bool.cond_self, Bool.not_true, Bool.not_false, Bool.true_or, Bool.or_true, Bool.false_or, Bool.or_false, Bool.and_self, Bool.and_true, Bool.true_and, Bool.false_and, Bool.and_false, bne_self_eq_false, beq_self_eq_true, allT, t10, r0, r1, f1, f2, f3, f4, f5, f6, f7, f8, f9, f10, hS1, hS2, s1, u1, g1, g4, g6, g7, k10, m10, e1, e2, q1, q2, q3, q4, nA, nB, nC, nD, mE, k9, hM, r_a0, r_a1, r_a2, r_a3, r_a4, r_a5, r_a6, r_a7, r_a8, r_a9, r_a10, r_a11, r_a12, r_a13, r_a14, r_a15, r_a16, r_a17, r_a18, r_a19, r_a20, r_a21, r_a22, r_a23, r_a24, r_a25, r_a26, r_a27, r_a28]
        refine ⟨?_, ?_⟩ <;> simp only [k9p, k9o, cond_true, cond_false, Bool.cond_self, Bool.not_true, Bool.not_false, Bool.true_or, Bool.or_true, Bool.false_or, Bool.or_false, Bool.and_self, Bool.and_true, Bool.true_and, Bool.false_and, Bool.and_false, bne_self_eq_false, beq_self_eq_true, allT, t10, r0, r1, f1, f2, f3, f4, f5, f6, f7, f8, f9, f10, hS1, hS2, s1, u1, g1, g4, g6, g7, k10, m10, e1, e2, q1, q2, q3, q4, nA, nB, nC, nD, mE, k9, hM, r_a0, r_a1, r_a2, r_a3, r_a4, r_a5, r_a6, r_a7, r_a8, r_a9, r_a10, r_a11, r_a12, r_a13, r_a14, r_a15, r_a16, r_a17, r_a18, r_a19, r_a20, r_a21, r_a22, r_a23, r_a24, r_a25, r_a26, r_a27, r_a28, r_a29]

end Go.SX
