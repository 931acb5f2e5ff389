/- What functions of the program come to, and what that says in plain words: part 3. -/
import Derived.Test.YtbbfgoobcjlooaaGreatDoorNb
import Derived.Test.YtbbfgoobcjlooaaGreatDoorTXh
import Derived.Test.YtbbfgoobcjlooaaGreatDoorProg
set_option linter.unusedSimpArgs false
set_option linter.unusedVariables false
namespace Go.SX
open Go.Proofs
set_option maxRecDepth 100000

def klo (x0 : Int) (x1 : List Int) : List Int :=
  bif x0 == (0 : Int) then List.replicate (Int.toNat (↑(List.length x1) : Int)) (0 : Int) else x1

def klf (x0 : Int) (x1 : List Int) : Bool :=
  allT
  [!x0 == (0 : Int) || leI (0 : Int) (↑(List.length x1) : Int), !x0 == (0 : Int) || leI (↑(List.length x1) : Int) (↑(List.length x1) : Int),
    !x0 == (0 : Int) || leI ((↑(8 : Nat) : Int) * (↑(List.length x1) : Int)) (281474976710656 : Int),
    !x0 == (0 : Int) || leI (↑(List.length x1) : Int) (9223372036854775807 : Int)]

def k112 : List SV → List Entry → Option Out
  | [.one ⟨false, [.ref 0]⟩, .one ⟨false, [.val (.int .i64 x0)]⟩], [.row false 2 (.int .i64) x1] => some ⟨(.one ⟨false, [(.ref 1)]⟩), [(.row false 2 (CTy.int IntKind.i64) x1)], [(.row false 2 (CTy.int IntKind.i64) (klo x0 x1))], [(klf x0 x1)]⟩
  | _, _ => none

def kww : PF Tryz.prog := PF.ofG Tryz.prog [] [] hmix 191 Tryz.f191 Tryz.func191 (fun c _ => LOk.nil c) k112 (by
  intro vs es r h; unfold k112 at h; split at h
  · cases h; kernel_rfl
  · cases h)

def k17 (x3 : Int) (x5 : List (Int × Int)) : Int × Int :=
  Option.getD x5[Int.toNat x3]? ((0 : Int), (0 : Int))

def ka (x3 : Int) (x5 : List (Int × Int)) : Bool :=
  Prod.fst (k17 x3 x5) == (1 : Int)

def kd (x3 : Int) (x5 : List (Int × Int)) : Bool :=
  k7x (Prod.fst (k17 x3 x5)) == (1 : Int)

def k2s (x3 : Int) : Int :=
  IntKind.wrap IntKind.i64 (x3 + (1 : Int))

def kb (x3 : Int) (x5 : List (Int × Int)) : Bool :=
  Prod.fst (k17 x3 x5) == (2 : Int)

def kf (x3 : Int) (x5 : List (Int × Int)) : Bool :=
  Prod.fst (k17 x3 x5) == (3 : Int)

def kj (x3 : Int) (x5 : List (Int × Int)) : Bool :=
  Prod.fst (k17 x3 x5) == (4 : Int)

def ko (x3 : Int) (x5 : List (Int × Int)) : Bool :=
  Prod.fst (k17 x3 x5) == (5 : Int)

def kx (x3 : Int) (x5 : List (Int × Int)) : Bool :=
  Prod.fst (k17 x3 x5) == (6 : Int)

def k19 (x3 : Int) (x5 : List (Int × Int)) : Bool :=
  Prod.fst (k17 x3 x5) == (7 : Int)

def k1d (x3 : Int) (x5 : List (Int × Int)) : Bool :=
  Prod.fst (k17 x3 x5) == (8 : Int)

def k1x (x3 : Int) (x5 : List (Int × Int)) : Bool :=
  Prod.fst (k17 x3 x5) == (9 : Int)

def k37 (x3 : Int) (x5 : List (Int × Int)) : Bool :=
  Prod.fst (k17 x3 x5) == (10 : Int)

def k6k (x3 : Int) (x5 : List (Int × Int)) : Bool :=
  Prod.fst (k17 x3 x5) == (11 : Int)

def kge (x3 : Int) (x4 : List (Int × ByteArray × Int)) (x5 : List (Int × Int)) (x6 : List Int) : Int :=
  IntKind.wrap IntKind.i64 ((↑(List.length x6) : Int) - k4l (Prod.fst (k17 x3 x5)) (Prod.snd (k17 x3 x5)) x4)

def k1i (x3 : Int) (x4 : List (Int × ByteArray × Int)) (x5 : List (Int × Int)) (x6 : List Int) : List Int :=
  List.drop (Int.toNat (0 : Int)) (List.take (Int.toNat (kge x3 x4 x5 x6)) x6)

def kgc (x3 : Int) (x5 : List (Int × Int)) (x10 : List Int) : Int :=
  Option.getD x10[Int.toNat (Prod.snd (k17 x3 x5))]? (0 : Int)

def kgj (x3 : Int) (x5 : List (Int × Int)) (x7 : List Int) : Int :=
  Option.getD x7[Int.toNat (Prod.snd (k17 x3 x5))]? (0 : Int)

def k6n (x3 : Int) (x4 : List (Int × ByteArray × Int)) (x5 : List (Int × Int)) (x6 : List Int) : List Int :=
  List.drop (Int.toNat (kge x3 x4 x5 x6)) (List.take (Int.toNat (↑(List.length x6) : Int)) x6)

def khx (x3 : Int) (x4 : List (Int × ByteArray × Int)) (x5 : List (Int × Int)) (x6 : List Int) : Int :=
  Option.getD (k6n x3 x4 x5 x6)[Int.toNat (0 : Int)]? (0 : Int)

def k5k (x3 : Int) (x4 : List (Int × ByteArray × Int)) (x5 : List (Int × Int)) (x6 : List Int) : List Int :=
  [IntKind.wrap IntKind.i64 ((1 : Int) - khx x3 x4 x5 x6)]

def k5l (x3 : Int) (x4 : List (Int × ByteArray × Int)) (x5 : List (Int × Int)) (x6 : List Int) : List Int :=
  [IntKind.wrap IntKind.i64
    (↑(BitVec.toNat
          (BitVec.ofInt (IntKind.bits IntKind.i64) (khx x3 x4 x5 x6) &&&
            BitVec.ofInt (IntKind.bits IntKind.i64) (Option.getD (k6n x3 x4 x5 x6)[Int.toNat (1 : Int)]? (0 : Int)))) :
      Int)]

def k5j (x3 : Int) (x4 : List (Int × ByteArray × Int)) (x5 : List (Int × Int)) (x6 : List Int) : List Int :=
  [IntKind.wrap IntKind.i64
    (↑(BitVec.toNat
          (BitVec.ofInt (IntKind.bits IntKind.i64) (khx x3 x4 x5 x6) |||
            BitVec.ofInt (IntKind.bits IntKind.i64) (Option.getD (k6n x3 x4 x5 x6)[Int.toNat (1 : Int)]? (0 : Int)))) :
      Int)]

def keb (x3 : Int) (x4 : List (Int × ByteArray × Int)) (x5 : List (Int × Int)) : Int × ByteArray × Int :=
  Option.getD x4[Int.toNat (Prod.snd (k17 x3 x5))]? ((0 : Int), ByteArray.empty, (0 : Int))

def ka6 (x3 : Int) (x5 : List (Int × Int)) (x9 : List (Int × Int × Int)) : Int × Int × Int :=
  Option.getD x9[Int.toNat (Prod.snd (k17 x3 x5))]? ((0 : Int), (0 : Int), (0 : Int))

def k5n (x3 : Int) (x4 : List (Int × ByteArray × Int)) (x5 : List (Int × Int)) (x6 : List Int) (x9 : List (Int × Int × Int)) : List Int :=
  [k51 (Prod.fst (keb x3 x4 x5)) (Prod.snd (Prod.snd (keb x3 x4 x5))) (Prod.fst (ka6 x3 x5 x9))
    (Prod.fst (Prod.snd (ka6 x3 x5 x9))) (Prod.snd (Prod.snd (ka6 x3 x5 x9))) (k6n x3 x4 x5 x6)]

def kii (x3 : Int) (x4 : List (Int × ByteArray × Int)) (x5 : List (Int × Int)) (x6 : List Int) : List Int :=
  bif kd x3 x5 then k1i x3 x4 x5 x6 ++ [(0 : Int)] else k1i x3 x4 x5 x6

def kqu (x3 : Int) (x4 : List (Int × ByteArray × Int)) (x5 : List (Int × Int)) (x6 : List Int) (x7 : List Int) : List Int :=
  List.set x7 (Int.toNat (Prod.snd (k17 x3 x5))) (khx x3 x4 x5 x6)

def kr5 (x3 : Int) (x4 : List (Int × ByteArray × Int)) (x5 : List (Int × Int)) (x6 : List Int) (x8 : List Int) : List Int :=
  List.set x8 (Int.toNat (Prod.snd (k17 x3 x5))) (khx x3 x4 x5 x6)

def kqr (x3 : Int) (x4 : List (Int × ByteArray × Int)) (x5 : List (Int × Int)) (x6 : List Int) (x9 : List (Int × Int × Int)) : List (Int × Int × Int) :=
  List.set x9 (Int.toNat (Prod.snd (k17 x3 x5)))
  (k7f (Prod.fst (keb x3 x4 x5)) (Prod.snd (Prod.snd (keb x3 x4 x5))) (Prod.fst (ka6 x3 x5 x9))
      (Prod.fst (Prod.snd (ka6 x3 x5 x9))) (Prod.snd (Prod.snd (ka6 x3 x5 x9))) (k6n x3 x4 x5 x6),
    k7m (Prod.fst (keb x3 x4 x5)) (Prod.fst (Prod.snd (ka6 x3 x5 x9)))
      (Prod.snd (Prod.snd (ka6 x3 x5 x9))) (k6n x3 x4 x5 x6),
    k7d (Prod.fst (keb x3 x4 x5)) (Prod.snd (Prod.snd (keb x3 x4 x5))) (Prod.fst (ka6 x3 x5 x9))
      (Prod.snd (Prod.snd (ka6 x3 x5 x9))) (k6n x3 x4 x5 x6))

def k8p (x3 : Int) (x5 : List (Int × Int)) (x10 : List Int) : Bool :=
  ltI (Prod.snd (k17 x3 x5)) (↑(List.length x10) : Int)

def k7c (x3 : Int) (x5 : List (Int × Int)) (x7 : List Int) : Bool :=
  ltI (Prod.snd (k17 x3 x5)) (↑(List.length x7) : Int)

def k5g (x3 : Int) (x4 : List (Int × ByteArray × Int)) (x5 : List (Int × Int)) (x6 : List Int) : Bool :=
  ltI (0 : Int) (↑(List.length (k6n x3 x4 x5 x6)) : Int)

def k5h (x3 : Int) (x4 : List (Int × ByteArray × Int)) (x5 : List (Int × Int)) (x6 : List Int) : Bool :=
  ltN (Int.toNat (0 : Int)) (List.length (k6n x3 x4 x5 x6))

def k8i (x3 : Int) (x4 : List (Int × ByteArray × Int)) (x5 : List (Int × Int)) (x6 : List Int) : Bool :=
  ltI (1 : Int) (↑(List.length (k6n x3 x4 x5 x6)) : Int)

def k8n (x3 : Int) (x4 : List (Int × ByteArray × Int)) (x5 : List (Int × Int)) (x6 : List Int) : Bool :=
  ltN (Int.toNat (1 : Int)) (List.length (k6n x3 x4 x5 x6))

def k7k (x3 : Int) (x5 : List (Int × Int)) : Bool :=
  ka x3 x5 ||
  (kb x3 x5 ||
    (kf x3 x5 ||
      (kj x3 x5 ||
        (ko x3 x5 || (kx x3 x5 || (!k19 x3 x5 || leI (0 : Int) (Prod.snd (k17 x3 x5))))))))

def k8t (x3 : Int) (x5 : List (Int × Int)) (x9 : List (Int × Int × Int)) : Bool :=
  ka x3 x5 ||
  (kb x3 x5 ||
    (kf x3 x5 ||
      (kj x3 x5 ||
        (ko x3 x5 ||
          (kx x3 x5 || (!k19 x3 x5 || ltI (Prod.snd (k17 x3 x5)) (↑(List.length x9) : Int)))))))

def k8g (x3 : Int) (x5 : List (Int × Int)) (x9 : List (Int × Int × Int)) : Bool :=
  ka x3 x5 ||
  (kb x3 x5 ||
    (kf x3 x5 ||
      (kj x3 x5 ||
        (ko x3 x5 ||
          (kx x3 x5 || (!k19 x3 x5 || ltN (Int.toNat (Prod.snd (k17 x3 x5))) (List.length x9)))))))

def k5i (x3 : Int) (x4 : List (Int × ByteArray × Int)) (x5 : List (Int × Int)) (x6 : List Int) : Bool :=
  !kd x3 x5 || leN (List.length (k1i x3 x4 x5 x6) + List.length [(0 : Int)]) (9223372036854775807 : Nat)

def k5m (x3 : Int) (x4 : List (Int × ByteArray × Int)) (x5 : List (Int × Int)) (x6 : List Int) : Bool :=
  !kd x3 x5 || leN ((List.length (k1i x3 x4 x5 x6) + List.length [(0 : Int)]) * (8 : Nat)) (140737488355328 : Nat)

def kog (x3 : Int) (x5 : List (Int × Int)) : Int :=
  bif ka x3 x5 then bif kd x3 x5 then k2s x3 else k2s x3
  else
  bif kb x3 x5 then bif kd x3 x5 then k2s x3 else k2s x3
  else
    bif kf x3 x5 then bif kd x3 x5 then k2s x3 else k2s x3
    else
      bif kj x3 x5 then bif kd x3 x5 then k2s x3 else k2s x3
      else
        bif ko x3 x5 then bif kd x3 x5 then k2s x3 else k2s x3
        else
          bif kx x3 x5 then bif kd x3 x5 then k2s x3 else k2s x3
          else
            bif k19 x3 x5 then bif kd x3 x5 then k2s x3 else k2s x3
            else
              bif k1d x3 x5 then bif kd x3 x5 then k2s x3 else k2s x3
              else
                bif k1x x3 x5 then bif kd x3 x5 then k2s x3 else k2s x3
                else
                  bif k37 x3 x5 then bif kd x3 x5 then k2s x3 else k2s x3
                  else
                    bif k6k x3 x5 then bif kd x3 x5 then k2s x3 else k2s x3
                    else bif kd x3 x5 then k2s x3 else k2s x3

def koq (x3 : Int) (x4 : List (Int × ByteArray × Int)) (x5 : List (Int × Int)) (x6 : List Int) (x7 : List Int) (x9 : List (Int × Int × Int)) (x10 : List Int) : List Int :=
  bif ka x3 x5 then
  bif kd x3 x5 then k1i x3 x4 x5 x6 ++ [Prod.snd (k17 x3 x5)] else k1i x3 x4 x5 x6
  else
  bif kb x3 x5 then
    bif kd x3 x5 then k1i x3 x4 x5 x6 ++ [kgc x3 x5 x10] else k1i x3 x4 x5 x6
  else
    bif kf x3 x5 then
      bif kd x3 x5 then k1i x3 x4 x5 x6 ++ [kgj x3 x5 x7] else k1i x3 x4 x5 x6
    else
      bif kj x3 x5 then
        bif kd x3 x5 then k1i x3 x4 x5 x6 ++ k5k x3 x4 x5 x6 else k1i x3 x4 x5 x6
      else
        bif ko x3 x5 then
          bif kd x3 x5 then k1i x3 x4 x5 x6 ++ k5l x3 x4 x5 x6 else k1i x3 x4 x5 x6
        else
          bif kx x3 x5 then
            bif kd x3 x5 then k1i x3 x4 x5 x6 ++ k5j x3 x4 x5 x6 else k1i x3 x4 x5 x6
          else
            bif k19 x3 x5 then
              bif kd x3 x5 then k1i x3 x4 x5 x6 ++ k5n x3 x4 x5 x6 x9 else k1i x3 x4 x5 x6
            else
              bif k1d x3 x5 then kii x3 x4 x5 x6
              else
                bif k1x x3 x5 then kii x3 x4 x5 x6
                else
                  bif k37 x3 x5 then kii x3 x4 x5 x6
                  else bif k6k x3 x5 then kii x3 x4 x5 x6 else kii x3 x4 x5 x6

def kr1 (x3 : Int) (x4 : List (Int × ByteArray × Int)) (x5 : List (Int × Int)) (x6 : List Int) (x7 : List Int) : List Int :=
  bif ka x3 x5 then bif kd x3 x5 then x7 else x7
  else
  bif kb x3 x5 then bif kd x3 x5 then x7 else x7
  else
    bif kf x3 x5 then bif kd x3 x5 then x7 else x7
    else
      bif kj x3 x5 then bif kd x3 x5 then x7 else x7
      else
        bif ko x3 x5 then bif kd x3 x5 then x7 else x7
        else
          bif kx x3 x5 then bif kd x3 x5 then x7 else x7
          else
            bif k19 x3 x5 then bif kd x3 x5 then x7 else x7
            else
              bif k1d x3 x5 then bif kd x3 x5 then kqu x3 x4 x5 x6 x7 else kqu x3 x4 x5 x6 x7
              else
                bif k1x x3 x5 then bif kd x3 x5 then x7 else x7
                else
                  bif k37 x3 x5 then bif kd x3 x5 then x7 else x7
                  else bif k6k x3 x5 then bif kd x3 x5 then x7 else x7 else bif kd x3 x5 then x7 else x7

def kr7 (x3 : Int) (x4 : List (Int × ByteArray × Int)) (x5 : List (Int × Int)) (x6 : List Int) (x7 : List Int) (x8 : List Int) (x10 : List Int) : List Int :=
  bif ka x3 x5 then bif kd x3 x5 then x8 else x8
  else
  bif kb x3 x5 then bif kd x3 x5 then x8 else x8
  else
    bif kf x3 x5 then bif kd x3 x5 then x8 else x8
    else
      bif kj x3 x5 then bif kd x3 x5 then x8 else x8
      else
        bif ko x3 x5 then bif kd x3 x5 then x8 else x8
        else
          bif kx x3 x5 then bif kd x3 x5 then x8 else x8
          else
            bif k19 x3 x5 then bif kd x3 x5 then x8 else x8
            else
              bif k1d x3 x5 then bif kd x3 x5 then x8 else x8
              else
                bif k1x x3 x5 then bif kd x3 x5 then kr5 x3 x4 x5 x6 x8 else kr5 x3 x4 x5 x6 x8
                else
                  bif k37 x3 x5 then
                    bif kd x3 x5 then klo (kgc x3 x5 x10) x8 else klo (kgc x3 x5 x10) x8
                  else
                    bif k6k x3 x5 then
                      bif kd x3 x5 then klo (kgj x3 x5 x7) x8 else klo (kgj x3 x5 x7) x8
                    else bif kd x3 x5 then x8 else x8

def kr6 (x3 : Int) (x4 : List (Int × ByteArray × Int)) (x5 : List (Int × Int)) (x6 : List Int) (x9 : List (Int × Int × Int)) : List (Int × (Int × Int)) :=
  bif ka x3 x5 then bif kd x3 x5 then x9 else x9
  else
  bif kb x3 x5 then bif kd x3 x5 then x9 else x9
  else
    bif kf x3 x5 then bif kd x3 x5 then x9 else x9
    else
      bif kj x3 x5 then bif kd x3 x5 then x9 else x9
      else
        bif ko x3 x5 then bif kd x3 x5 then x9 else x9
        else
          bif kx x3 x5 then bif kd x3 x5 then x9 else x9
          else
            bif k19 x3 x5 then bif kd x3 x5 then kqr x3 x4 x5 x6 x9 else kqr x3 x4 x5 x6 x9
            else
              bif k1d x3 x5 then bif kd x3 x5 then x9 else x9
              else
                bif k1x x3 x5 then bif kd x3 x5 then x9 else x9
                else
                  bif k37 x3 x5 then bif kd x3 x5 then x9 else x9
                  else bif k6k x3 x5 then bif kd x3 x5 then x9 else x9 else bif kd x3 x5 then x9 else x9

def k9x (x3 : Int) (x4 : List (Int × ByteArray × Int)) (x5 : List (Int × Int)) (x6 : List Int) (x7 : List Int) (x8 : List Int) (x9 : List (Int × Int × Int)) (x10 : List Int) : Bool :=
  allT
  [leI (0 : Int) x3, ltI x3 (↑(List.length x5) : Int), ltN (Int.toNat x3) (List.length x5),
    kh9 (Prod.fst (k17 x3 x5)) (Prod.snd (k17 x3 x5)) x4, leI (0 : Int) (kge x3 x4 x5 x6),
    leI (kge x3 x4 x5 x6) (↑(List.length x6) : Int), leI (↑(List.length x6) : Int) (↑(List.length x6) : Int),
    leN (List.length (k6n x3 x4 x5 x6)) (1048576 : Nat), leI (0 : Int) (kge x3 x4 x5 x6),
    leI (kge x3 x4 x5 x6) (↑(List.length x6) : Int), leN (List.length (k1i x3 x4 x5 x6)) (1048576 : Nat),
    leN (List.length x7) (1048576 : Nat), leN (List.length x8) (1048576 : Nat), leN ((0 : Nat) + List.length x9) (9223372036854775807 : Nat),
    leN (((0 : Nat) + List.length x9) * (24 : Nat)) (140737488355328 : Nat),
    ka x3 x5 || (!kb x3 x5 || leI (0 : Int) (Prod.snd (k17 x3 x5))),
    ka x3 x5 || (!kb x3 x5 || k8p x3 x5 x10),
    ka x3 x5 || (!kb x3 x5 || ltN (Int.toNat (Prod.snd (k17 x3 x5))) (List.length x10)),
    ka x3 x5 || (kb x3 x5 || (!kf x3 x5 || leI (0 : Int) (Prod.snd (k17 x3 x5)))),
    ka x3 x5 || (kb x3 x5 || (!kf x3 x5 || k7c x3 x5 x7)),
    ka x3 x5 ||
      (kb x3 x5 || (!kf x3 x5 || ltN (Int.toNat (Prod.snd (k17 x3 x5))) (List.length x7))),
    ka x3 x5 || (kb x3 x5 || (kf x3 x5 || (!kj x3 x5 || leI (0 : Int) (0 : Int)))),
    ka x3 x5 || (kb x3 x5 || (kf x3 x5 || (!kj x3 x5 || k5g x3 x4 x5 x6))),
    ka x3 x5 || (kb x3 x5 || (kf x3 x5 || (!kj x3 x5 || k5h x3 x4 x5 x6))),
    ka x3 x5 ||
      (kb x3 x5 || (kf x3 x5 || (kj x3 x5 || (!ko x3 x5 || leI (0 : Int) (0 : Int))))),
    ka x3 x5 ||
      (kb x3 x5 || (kf x3 x5 || (kj x3 x5 || (!ko x3 x5 || k5g x3 x4 x5 x6)))),
    ka x3 x5 ||
      (kb x3 x5 || (kf x3 x5 || (kj x3 x5 || (!ko x3 x5 || k5h x3 x4 x5 x6)))),
    ka x3 x5 ||
      (kb x3 x5 || (kf x3 x5 || (kj x3 x5 || (!ko x3 x5 || leI (0 : Int) (1 : Int))))),
    ka x3 x5 ||
      (kb x3 x5 || (kf x3 x5 || (kj x3 x5 || (!ko x3 x5 || k8i x3 x4 x5 x6)))),
    ka x3 x5 ||
      (kb x3 x5 || (kf x3 x5 || (kj x3 x5 || (!ko x3 x5 || k8n x3 x4 x5 x6)))),
    ka x3 x5 ||
      (kb x3 x5 ||
        (kf x3 x5 || (kj x3 x5 || (ko x3 x5 || (!kx x3 x5 || leI (0 : Int) (0 : Int)))))),
    ka x3 x5 ||
      (kb x3 x5 ||
        (kf x3 x5 || (kj x3 x5 || (ko x3 x5 || (!kx x3 x5 || k5g x3 x4 x5 x6))))),
    ka x3 x5 ||
      (kb x3 x5 ||
        (kf x3 x5 || (kj x3 x5 || (ko x3 x5 || (!kx x3 x5 || k5h x3 x4 x5 x6))))),
    ka x3 x5 ||
      (kb x3 x5 ||
        (kf x3 x5 || (kj x3 x5 || (ko x3 x5 || (!kx x3 x5 || leI (0 : Int) (1 : Int)))))),
    ka x3 x5 ||
      (kb x3 x5 ||
        (kf x3 x5 || (kj x3 x5 || (ko x3 x5 || (!kx x3 x5 || k8i x3 x4 x5 x6))))),
    ka x3 x5 ||
      (kb x3 x5 ||
        (kf x3 x5 || (kj x3 x5 || (ko x3 x5 || (!kx x3 x5 || k8n x3 x4 x5 x6))))),
    k7k x3 x5,
    ka x3 x5 ||
      (kb x3 x5 ||
        (kf x3 x5 ||
          (kj x3 x5 ||
            (ko x3 x5 ||
              (kx x3 x5 || (!k19 x3 x5 || ltI (Prod.snd (k17 x3 x5)) (↑(List.length x4) : Int))))))),
    ka x3 x5 ||
      (kb x3 x5 ||
        (kf x3 x5 ||
          (kj x3 x5 ||
            (ko x3 x5 ||
              (kx x3 x5 || (!k19 x3 x5 || ltN (Int.toNat (Prod.snd (k17 x3 x5))) (List.length x4))))))),
    k7k x3 x5, k8t x3 x5 x9, k8g x3 x5 x9,
    ka x3 x5 ||
      (kb x3 x5 ||
        (kf x3 x5 ||
          (kj x3 x5 ||
            (ko x3 x5 || (kx x3 x5 || (!k19 x3 x5 || k9y (k6n x3 x4 x5 x6))))))),
    k7k x3 x5, k8t x3 x5 x9, k8g x3 x5 x9,
    ka x3 x5 ||
      (kb x3 x5 ||
        (kf x3 x5 ||
          (kj x3 x5 ||
            (ko x3 x5 || (kx x3 x5 || (k19 x3 x5 || (!k1d x3 x5 || leI (0 : Int) (0 : Int)))))))),
    ka x3 x5 ||
      (kb x3 x5 ||
        (kf x3 x5 ||
          (kj x3 x5 ||
            (ko x3 x5 ||
              (kx x3 x5 || (k19 x3 x5 || (!k1d x3 x5 || k5g x3 x4 x5 x6))))))),
    ka x3 x5 ||
      (kb x3 x5 ||
        (kf x3 x5 ||
          (kj x3 x5 ||
            (ko x3 x5 ||
              (kx x3 x5 || (k19 x3 x5 || (!k1d x3 x5 || k5h x3 x4 x5 x6))))))),
    ka x3 x5 ||
      (kb x3 x5 ||
        (kf x3 x5 ||
          (kj x3 x5 ||
            (ko x3 x5 ||
              (kx x3 x5 || (k19 x3 x5 || (!k1d x3 x5 || leI (0 : Int) (Prod.snd (k17 x3 x5))))))))),
    ka x3 x5 ||
      (kb x3 x5 ||
        (kf x3 x5 ||
          (kj x3 x5 ||
            (ko x3 x5 ||
              (kx x3 x5 || (k19 x3 x5 || (!k1d x3 x5 || k7c x3 x5 x7))))))),
    ka x3 x5 ||
      (kb x3 x5 ||
        (kf x3 x5 ||
          (kj x3 x5 ||
            (ko x3 x5 ||
              (kx x3 x5 ||
                (k19 x3 x5 || (!k1d x3 x5 || ltN (Int.toNat (Prod.snd (k17 x3 x5))) (List.length x7)))))))),
    ka x3 x5 ||
      (kb x3 x5 ||
        (kf x3 x5 ||
          (kj x3 x5 ||
            (ko x3 x5 ||
              (kx x3 x5 ||
                (k19 x3 x5 || (k1d x3 x5 || (!k1x x3 x5 || leI (0 : Int) (0 : Int))))))))),
    ka x3 x5 ||
      (kb x3 x5 ||
        (kf x3 x5 ||
          (kj x3 x5 ||
            (ko x3 x5 ||
              (kx x3 x5 ||
                (k19 x3 x5 || (k1d x3 x5 || (!k1x x3 x5 || k5g x3 x4 x5 x6)))))))),
    ka x3 x5 ||
      (kb x3 x5 ||
        (kf x3 x5 ||
          (kj x3 x5 ||
            (ko x3 x5 ||
              (kx x3 x5 ||
                (k19 x3 x5 || (k1d x3 x5 || (!k1x x3 x5 || k5h x3 x4 x5 x6)))))))),
    ka x3 x5 ||
      (kb x3 x5 ||
        (kf x3 x5 ||
          (kj x3 x5 ||
            (ko x3 x5 ||
              (kx x3 x5 ||
                (k19 x3 x5 ||
                  (k1d x3 x5 || (!k1x x3 x5 || leI (0 : Int) (Prod.snd (k17 x3 x5)))))))))),
    ka x3 x5 ||
      (kb x3 x5 ||
        (kf x3 x5 ||
          (kj x3 x5 ||
            (ko x3 x5 ||
              (kx x3 x5 ||
                (k19 x3 x5 ||
                  (k1d x3 x5 || (!k1x x3 x5 || ltI (Prod.snd (k17 x3 x5)) (↑(List.length x8) : Int))))))))),
    ka x3 x5 ||
      (kb x3 x5 ||
        (kf x3 x5 ||
          (kj x3 x5 ||
            (ko x3 x5 ||
              (kx x3 x5 ||
                (k19 x3 x5 ||
                  (k1d x3 x5 || (!k1x x3 x5 || ltN (Int.toNat (Prod.snd (k17 x3 x5))) (List.length x8))))))))),
    ka x3 x5 ||
      (kb x3 x5 ||
        (kf x3 x5 ||
          (kj x3 x5 ||
            (ko x3 x5 ||
              (kx x3 x5 ||
                (k19 x3 x5 ||
                  (k1d x3 x5 ||
                    (k1x x3 x5 || (!k37 x3 x5 || leI (0 : Int) (Prod.snd (k17 x3 x5))))))))))),
    ka x3 x5 ||
      (kb x3 x5 ||
        (kf x3 x5 ||
          (kj x3 x5 ||
            (ko x3 x5 ||
              (kx x3 x5 ||
                (k19 x3 x5 ||
                  (k1d x3 x5 || (k1x x3 x5 || (!k37 x3 x5 || k8p x3 x5 x10))))))))),
    ka x3 x5 ||
      (kb x3 x5 ||
        (kf x3 x5 ||
          (kj x3 x5 ||
            (ko x3 x5 ||
              (kx x3 x5 ||
                (k19 x3 x5 ||
                  (k1d x3 x5 ||
                    (k1x x3 x5 ||
                      (!k37 x3 x5 || ltN (Int.toNat (Prod.snd (k17 x3 x5))) (List.length x10)))))))))),
    ka x3 x5 ||
      (kb x3 x5 ||
        (kf x3 x5 ||
          (kj x3 x5 ||
            (ko x3 x5 ||
              (kx x3 x5 ||
                (k19 x3 x5 ||
                  (k1d x3 x5 ||
                    (k1x x3 x5 || (!k37 x3 x5 || klf (kgc x3 x5 x10) x8))))))))),
    ka x3 x5 ||
      (kb x3 x5 ||
        (kf x3 x5 ||
          (kj x3 x5 ||
            (ko x3 x5 ||
              (kx x3 x5 ||
                (k19 x3 x5 ||
                  (k1d x3 x5 ||
                    (k1x x3 x5 ||
                      (k37 x3 x5 || (!k6k x3 x5 || leI (0 : Int) (Prod.snd (k17 x3 x5)))))))))))),
    ka x3 x5 ||
      (kb x3 x5 ||
        (kf x3 x5 ||
          (kj x3 x5 ||
            (ko x3 x5 ||
              (kx x3 x5 ||
                (k19 x3 x5 ||
                  (k1d x3 x5 ||
                    (k1x x3 x5 || (k37 x3 x5 || (!k6k x3 x5 || k7c x3 x5 x7)))))))))),
    ka x3 x5 ||
      (kb x3 x5 ||
        (kf x3 x5 ||
          (kj x3 x5 ||
            (ko x3 x5 ||
              (kx x3 x5 ||
                (k19 x3 x5 ||
                  (k1d x3 x5 ||
                    (k1x x3 x5 ||
                      (k37 x3 x5 ||
                        (!k6k x3 x5 || ltN (Int.toNat (Prod.snd (k17 x3 x5))) (List.length x7))))))))))),
    ka x3 x5 ||
      (kb x3 x5 ||
        (kf x3 x5 ||
          (kj x3 x5 ||
            (ko x3 x5 ||
              (kx x3 x5 ||
                (k19 x3 x5 ||
                  (k1d x3 x5 ||
                    (k1x x3 x5 ||
                      (k37 x3 x5 || (!k6k x3 x5 || klf (kgj x3 x5 x7) x8)))))))))),
    !ka x3 x5 ||
      (!kd x3 x5 ||
        leN (List.length (k1i x3 x4 x5 x6) + List.length [Prod.snd (k17 x3 x5)]) (9223372036854775807 : Nat)),
    !ka x3 x5 ||
      (!kd x3 x5 ||
        leN ((List.length (k1i x3 x4 x5 x6) + List.length [Prod.snd (k17 x3 x5)]) * (8 : Nat)) (140737488355328 : Nat)),
    ka x3 x5 ||
      (!kb x3 x5 ||
        (!kd x3 x5 ||
          leN (List.length (k1i x3 x4 x5 x6) + List.length [kgc x3 x5 x10]) (9223372036854775807 : Nat))),
    ka x3 x5 ||
      (!kb x3 x5 ||
        (!kd x3 x5 ||
          leN ((List.length (k1i x3 x4 x5 x6) + List.length [kgc x3 x5 x10]) * (8 : Nat)) (140737488355328 : Nat))),
    ka x3 x5 ||
      (kb x3 x5 ||
        (!kf x3 x5 ||
          (!kd x3 x5 ||
            leN (List.length (k1i x3 x4 x5 x6) + List.length [kgj x3 x5 x7]) (9223372036854775807 : Nat)))),
    ka x3 x5 ||
      (kb x3 x5 ||
        (!kf x3 x5 ||
          (!kd x3 x5 ||
            leN ((List.length (k1i x3 x4 x5 x6) + List.length [kgj x3 x5 x7]) * (8 : Nat)) (140737488355328 : Nat)))),
    ka x3 x5 ||
      (kb x3 x5 ||
        (kf x3 x5 ||
          (!kj x3 x5 ||
            (!kd x3 x5 ||
              leN (List.length (k1i x3 x4 x5 x6) + List.length (k5k x3 x4 x5 x6)) (9223372036854775807 : Nat))))),
    ka x3 x5 ||
      (kb x3 x5 ||
        (kf x3 x5 ||
          (!kj x3 x5 ||
            (!kd x3 x5 ||
              leN ((List.length (k1i x3 x4 x5 x6) + List.length (k5k x3 x4 x5 x6)) * (8 : Nat)) (140737488355328 : Nat))))),
    ka x3 x5 ||
      (kb x3 x5 ||
        (kf x3 x5 ||
          (kj x3 x5 ||
            (!ko x3 x5 ||
              (!kd x3 x5 ||
                leN (List.length (k1i x3 x4 x5 x6) + List.length (k5l x3 x4 x5 x6)) (9223372036854775807 : Nat)))))),
    ka x3 x5 ||
      (kb x3 x5 ||
        (kf x3 x5 ||
          (kj x3 x5 ||
            (!ko x3 x5 ||
              (!kd x3 x5 ||
                leN ((List.length (k1i x3 x4 x5 x6) + List.length (k5l x3 x4 x5 x6)) * (8 : Nat))
                  (140737488355328 : Nat)))))),
    ka x3 x5 ||
      (kb x3 x5 ||
        (kf x3 x5 ||
          (kj x3 x5 ||
            (ko x3 x5 ||
              (!kx x3 x5 ||
                (!kd x3 x5 ||
                  leN (List.length (k1i x3 x4 x5 x6) + List.length (k5j x3 x4 x5 x6)) (9223372036854775807 : Nat))))))),
    ka x3 x5 ||
      (kb x3 x5 ||
        (kf x3 x5 ||
          (kj x3 x5 ||
            (ko x3 x5 ||
              (!kx x3 x5 ||
                (!kd x3 x5 ||
                  leN ((List.length (k1i x3 x4 x5 x6) + List.length (k5j x3 x4 x5 x6)) * (8 : Nat))
                    (140737488355328 : Nat))))))),
    ka x3 x5 ||
      (kb x3 x5 ||
        (kf x3 x5 ||
          (kj x3 x5 ||
            (ko x3 x5 ||
              (kx x3 x5 ||
                (!k19 x3 x5 ||
                  (!kd x3 x5 ||
                    leN (List.length (k1i x3 x4 x5 x6) + List.length (k5n x3 x4 x5 x6 x9))
                      (9223372036854775807 : Nat)))))))),
    ka x3 x5 ||
      (kb x3 x5 ||
        (kf x3 x5 ||
          (kj x3 x5 ||
            (ko x3 x5 ||
              (kx x3 x5 ||
                (!k19 x3 x5 ||
                  (!kd x3 x5 ||
                    leN ((List.length (k1i x3 x4 x5 x6) + List.length (k5n x3 x4 x5 x6 x9)) * (8 : Nat))
                      (140737488355328 : Nat)))))))),
    ka x3 x5 ||
      (kb x3 x5 ||
        (kf x3 x5 ||
          (kj x3 x5 ||
            (ko x3 x5 ||
              (kx x3 x5 || (k19 x3 x5 || (!k1d x3 x5 || k5i x3 x4 x5 x6))))))),
    ka x3 x5 ||
      (kb x3 x5 ||
        (kf x3 x5 ||
          (kj x3 x5 ||
            (ko x3 x5 ||
              (kx x3 x5 || (k19 x3 x5 || (!k1d x3 x5 || k5m x3 x4 x5 x6))))))),
    ka x3 x5 ||
      (kb x3 x5 ||
        (kf x3 x5 ||
          (kj x3 x5 ||
            (ko x3 x5 ||
              (kx x3 x5 ||
                (k19 x3 x5 || (k1d x3 x5 || (!k1x x3 x5 || k5i x3 x4 x5 x6)))))))),
    ka x3 x5 ||
      (kb x3 x5 ||
        (kf x3 x5 ||
          (kj x3 x5 ||
            (ko x3 x5 ||
              (kx x3 x5 ||
                (k19 x3 x5 || (k1d x3 x5 || (!k1x x3 x5 || k5m x3 x4 x5 x6)))))))),
    ka x3 x5 ||
      (kb x3 x5 ||
        (kf x3 x5 ||
          (kj x3 x5 ||
            (ko x3 x5 ||
              (kx x3 x5 ||
                (k19 x3 x5 ||
                  (k1d x3 x5 || (k1x x3 x5 || (!k37 x3 x5 || k5i x3 x4 x5 x6))))))))),
    ka x3 x5 ||
      (kb x3 x5 ||
        (kf x3 x5 ||
          (kj x3 x5 ||
            (ko x3 x5 ||
              (kx x3 x5 ||
                (k19 x3 x5 ||
                  (k1d x3 x5 || (k1x x3 x5 || (!k37 x3 x5 || k5m x3 x4 x5 x6))))))))),
    ka x3 x5 ||
      (kb x3 x5 ||
        (kf x3 x5 ||
          (kj x3 x5 ||
            (ko x3 x5 ||
              (kx x3 x5 ||
                (k19 x3 x5 ||
                  (k1d x3 x5 ||
                    (k1x x3 x5 || (k37 x3 x5 || (!k6k x3 x5 || k5i x3 x4 x5 x6)))))))))),
    ka x3 x5 ||
      (kb x3 x5 ||
        (kf x3 x5 ||
          (kj x3 x5 ||
            (ko x3 x5 ||
              (kx x3 x5 ||
                (k19 x3 x5 ||
                  (k1d x3 x5 ||
                    (k1x x3 x5 || (k37 x3 x5 || (!k6k x3 x5 || k5m x3 x4 x5 x6)))))))))),
    ka x3 x5 ||
      (kb x3 x5 ||
        (kf x3 x5 ||
          (kj x3 x5 ||
            (ko x3 x5 ||
              (kx x3 x5 ||
                (k19 x3 x5 ||
                  (k1d x3 x5 ||
                    (k1x x3 x5 || (k37 x3 x5 || (k6k x3 x5 || k5i x3 x4 x5 x6)))))))))),
    ka x3 x5 ||
      (kb x3 x5 ||
        (kf x3 x5 ||
          (kj x3 x5 ||
            (ko x3 x5 ||
              (kx x3 x5 ||
                (k19 x3 x5 ||
                  (k1d x3 x5 ||
                    (k1x x3 x5 || (k37 x3 x5 || (k6k x3 x5 || k5m x3 x4 x5 x6))))))))))]

def k11c : List SV → List Entry → Option Out
  | [.one ⟨true, [.val (.int .i64 _x0), .val (.int .i64 _x1), .val (.int .i64 _x2), .ref 0, .ref 1]⟩, .one ⟨true, [.val (.int .i64 x3), .ref 2, .ref 3, .ref 4, .ref 5]⟩, .one ⟨false, [.ref 6]⟩], [.row false 178 (.pair (.int .i64) (.pair (.str) (.int .i64))) x4, .row false 150 (.pair (.int .i64) (.int .i64)) x5, .row false 2 (.int .i64) x6, .row false 2 (.int .i64) x7, .row false 2 (.int .i64) x8, .row false 172 (.pair (.int .i64) (.pair (.int .i64) (.int .i64))) x9, .row false 2 (.int .i64) x10] => some ⟨(.one ⟨true, [(.val (.int IntKind.i64 (kog x3 x5))), (.ref 7), (.ref 8), (.ref 9), (.ref 10)]⟩), [(.row false 178 (CTy.pair (CTy.int IntKind.i64) (CTy.pair CTy.str (CTy.int IntKind.i64))) x4), (.row false 150 (CTy.pair (CTy.int IntKind.i64) (CTy.int IntKind.i64)) x5), (.row false 2 (CTy.int IntKind.i64) x6), (.row false 2 (CTy.int IntKind.i64) x7), (.row false 2 (CTy.int IntKind.i64) x8), (.row false 172 (CTy.pair (CTy.int IntKind.i64) (CTy.pair (CTy.int IntKind.i64) (CTy.int IntKind.i64))) x9), (.row false 2 (CTy.int IntKind.i64) x10)], [(.row false 2 (CTy.int IntKind.i64) (koq x3 x4 x5 x6 x7 x9 x10)), (.row false 2 (CTy.int IntKind.i64) (kr1 x3 x4 x5 x6 x7)), (.row false 2 (CTy.int IntKind.i64) (kr7 x3 x4 x5 x6 x7 x8 x10)), (.row false 172 (CTy.pair (CTy.int IntKind.i64) (CTy.pair (CTy.int IntKind.i64) (CTy.int IntKind.i64))) (kr6 x3 x4 x5 x6 x9))], [(k9x x3 x4 x5 x6 x7 x8 x9 x10)]⟩
  | _, _ => none

def klq : PF Tryz.prog := PF.ofG Tryz.prog [kji, PF.lend kji, PF.fz kji, kg3, PF.lend kg3, PF.fz kg3, kxm, PF.lend kxm, PF.fz kxm, kww, PF.lend kww, PF.fz kww] [] hmix 122 Tryz.f122 Tryz.func122 (fun c _ => LOk.nil c) k11c (by
  intro vs es r h; unfold k11c at h; split at h
  · cases h; kernel_rfl
  · cases h)

abbrev kce := Int × Int × Int × Int × List Int × List Int × List Int × List Int × List (Int × (Int × Int)) × List (Int × (ByteArray × Int)) × List (Int × Int)

def kqp (y0 : Int) (y10 : List (Int × Int)) : Bool :=
  ltI y0 (↑(List.length y10) : Int)

def kvi (y0 : Int) (y4 : List Int) (y5 : List Int) (y6 : List Int) (y7 : List Int) (y8 : List (Int × (Int × Int))) (y9 : List (Int × (ByteArray × Int))) (y10 : List (Int × Int)) : Bool :=
  k9x y0 y9 y10 y5 y6 y7 y8 y4

def kva (y0 : Int) (y10 : List (Int × Int)) : Int :=
  kog y0 y10

def kvb (y0 : Int) (y4 : List Int) (y5 : List Int) (y6 : List Int) (y8 : List (Int × (Int × Int))) (y9 : List (Int × (ByteArray × Int))) (y10 : List (Int × Int)) : List Int :=
  koq y0 y9 y10 y5 y6 y8 y4

def kvm (y0 : Int) (y5 : List Int) (y6 : List Int) (y9 : List (Int × (ByteArray × Int))) (y10 : List (Int × Int)) : List Int :=
  kr1 y0 y9 y10 y5 y6

def kv8 (y0 : Int) (y4 : List Int) (y5 : List Int) (y6 : List Int) (y7 : List Int) (y9 : List (Int × (ByteArray × Int))) (y10 : List (Int × Int)) : List Int :=
  kr7 y0 y9 y10 y5 y6 y7 y4

def kvj (y0 : Int) (y5 : List Int) (y8 : List (Int × (Int × Int))) (y9 : List (Int × (ByteArray × Int))) (y10 : List (Int × Int)) : List (Int × (Int × Int)) :=
  kr6 y0 y9 y10 y5 y8

def k10q : kce → List (Nat × SV)
  | (_, _, _, _, _, _, _, _, _, _, _) => [(4, (.one ⟨false, [(.ptr 0 0)]⟩)), (3, (.one ⟨false, [(.ptr 1 0)]⟩)), (2, (.one ⟨false, [(.ref 2)]⟩))]

def k10u : kce → List (Nat × Entry)
  | (y0, y1, y2, y3, y4, y5, y6, y7, y8, y9, y10) => [(0, (.box 77 [(.val (.int IntKind.i64 y0)), (.ref 3), (.ref 4), (.ref 5), (.ref 6)])), (1, (.box 34 [(.val (.int IntKind.i64 y1)), (.val (.int IntKind.i64 y2)), (.val (.int IntKind.i64 y3)), (.ref 7), (.ref 8)])), (2, (.row false 2 (CTy.int IntKind.i64) y4)), (7, (.row false 178 (CTy.pair (CTy.int IntKind.i64) (CTy.pair CTy.str (CTy.int IntKind.i64))) y9)), (8, (.row false 150 (CTy.pair (CTy.int IntKind.i64) (CTy.int IntKind.i64)) y10)), (3, (.row false 2 (CTy.int IntKind.i64) y5)), (4, (.row false 2 (CTy.int IntKind.i64) y6)), (5, (.row false 2 (CTy.int IntKind.i64) y7)), (6, (.row false 172 (CTy.pair (CTy.int IntKind.i64) (CTy.pair (CTy.int IntKind.i64) (CTy.int IntKind.i64))) y8))]

def k10k : Nat → kce → List (Nat × SV)
  | _, (_, _, _, _, _, _, _, _, _, _, _) => []

def k10r : Nat → kce → List (Nat × Entry)
  | _, (y0, y1, y2, y3, y4, y5, y6, y7, y8, y9, y10) => [(0, (.box 77 [(.val (.int IntKind.i64 y0)), (.ref 3), (.ref 4), (.ref 5), (.ref 6)])), (1, (.box 34 [(.val (.int IntKind.i64 y1)), (.val (.int IntKind.i64 y2)), (.val (.int IntKind.i64 y3)), (.ref 7), (.ref 8)])), (2, (.row false 2 (CTy.int IntKind.i64) y4)), (3, (.row false 2 (CTy.int IntKind.i64) y5)), (4, (.row false 2 (CTy.int IntKind.i64) y6)), (5, (.row false 2 (CTy.int IntKind.i64) y7)), (6, (.row false 172 (CTy.pair (CTy.int IntKind.i64) (CTy.pair (CTy.int IntKind.i64) (CTy.int IntKind.i64))) y8)), (7, (.row false 178 (CTy.pair (CTy.int IntKind.i64) (CTy.pair CTy.str (CTy.int IntKind.i64))) y9)), (8, (.row false 150 (CTy.pair (CTy.int IntKind.i64) (CTy.int IntKind.i64)) y10))]

def kpz : kce → LT kce
  | (y0, y1, y2, y3, y4, y5, y6, y7, y8, y9, y10) => .ite (kqp y0 y10) (.need [(kvi y0 y4 y5 y6 y7 y8 y9 y10)] (.nrm ((kva y0 y10), y1, y2, y3, y4, (kvb y0 y4 y5 y6 y8 y9 y10), (kvm y0 y5 y6 y9 y10), (kv8 y0 y4 y5 y6 y7 y9 y10), (kvj y0 y5 y8 y9 y10), y9, y10) [(0, 0), (1, 1), (2, 2), (3, 640), (4, 641), (5, 642), (6, 643), (7, 7), (8, 8)])) (.ext 0 [(0, 0), (1, 1), (2, 2), (3, 3), (4, 4), (5, 5), (6, 6), (7, 7), (8, 8)])

def kpw (s : St) : Option kce :=
  (match s.look 4 with
  | some ⟨none, (.one ⟨false, [(.ptr 576 0)]⟩)⟩ =>
  (match s.look 3 with
  | some ⟨none, (.one ⟨false, [(.ptr 512 0)]⟩)⟩ =>
  (match s.look 2 with
  | some ⟨none, (.one ⟨false, [(.ref 6)]⟩)⟩ =>
  (match s.ent 576 with
  | some (.box 77 [(.val (.int IntKind.i64 y0)), (.ref 2368), (.ref 3008), (.ref 3648), (.ref 4288)]) =>
  (match s.ent 512 with
  | some (.box 34 [(.val (.int IntKind.i64 y1)), (.val (.int IntKind.i64 y2)), (.val (.int IntKind.i64 y3)), (.ref 0), (.ref 1)]) =>
  (match s.ent 6 with
  | some (.row false 2 (CTy.int IntKind.i64) y4) =>
  (match s.ent 0 with
  | some (.row false 178 (CTy.pair (CTy.int IntKind.i64) (CTy.pair CTy.str (CTy.int IntKind.i64))) y9) =>
  (match s.ent 1 with
  | some (.row false 150 (CTy.pair (CTy.int IntKind.i64) (CTy.int IntKind.i64)) y10) =>
  (match s.ent 2368 with
  | some (.row false 2 (CTy.int IntKind.i64) y5) =>
  (match s.ent 3008 with
  | some (.row false 2 (CTy.int IntKind.i64) y6) =>
  (match s.ent 3648 with
  | some (.row false 2 (CTy.int IntKind.i64) y7) =>
  (match s.ent 4288 with
  | some (.row false 172 (CTy.pair (CTy.int IntKind.i64) (CTy.pair (CTy.int IntKind.i64) (CTy.int IntKind.i64))) y8) =>
  some (y0, y1, y2, y3, y4, y5, y6, y7, y8, y9, y10)
  | _ => none)
  | _ => none)
  | _ => none)
  | _ => none)
  | _ => none)
  | _ => none)
  | _ => none)
  | _ => none)
  | _ => none)
  | _ => none)
  | _ => none)
  | _ => none)

def k7y : Lp kce where
  h := ⟨[23, 24, 25, 26, 27, 28, 29, 30, 31, 32], [0, 1, 2, 7, 8], [3, 4, 5, 6], []⟩
  JL := k10q
  JE := k10u
  XL := k10k
  XE := k10r
  q := fun j => match j with | _ => .exit 0
  tags := [0]
  lt := kpz
  fuel := fun (y0, y1, y2, y3, y4, y5, y6, y7, y8, y9, y10) => y0.natAbs + y1.natAbs + y2.natAbs + y3.natAbs + y4.length + y5.length + y6.length + y7.length + y8.length + y9.length + y10.length
  fix := fun (_, y1, y2, y3, y4, _, _, _, _, y9, y10) (y0, _, _, _, _, y5, y6, y7, y8, _, _) => (y0, y1, y2, y3, y4, y5, y6, y7, y8, y9, y10)
  σ := [(0, 576), (1, 512), (2, 6), (7, 0), (8, 1), (3, 2368), (4, 3008), (5, 3648), (6, 4288)]
  rd := kpw
  fz := [0]

theorem kyj : LoopOk Tryz.prog (fun k => Nat.blt k Tryz.f127.ntmps) k7y.F (loopAt Tryz.f127 0) := by
  refine Lp.ok (tbl := [klq, PF.lend klq, PF.fz klq, kji, PF.lend kji, PF.fz kji]) (lf := []) hmix k7y (by kernel_rfl) (LOk.nil _) (fun _ => rfl) (fun _ _ => rfl) ?_ ?_ ?_ ?_ (fun _ => rfl) ?_
  · intro x; obtain ⟨y0, y1, y2, y3, y4, y5, y6, y7, y8, y9, y10⟩ := x; kernel_rfl
  · intro x; obtain ⟨y0, y1, y2, y3, y4, y5, y6, y7, y8, y9, y10⟩ := x; kernel_rfl
  · intro s x h
    have h : kpw s = some x := h
    unfold kpw at h
    repeat' split at h
    all_goals cases h
    exact ⟨absS_cons (by assumption) rfl (absS_cons (by assumption) rfl (absS_cons (by assumption) rfl (rfl))), absE_cons rfl (by assumption) rfl (absE_cons rfl (by assumption) rfl (absE_cons rfl (by assumption) rfl (absE_cons rfl (by assumption) rfl (absE_cons rfl (by assumption) rfl (absE_cons rfl (by assumption) rfl (absE_cons rfl (by assumption) rfl (absE_cons rfl (by assumption) rfl (absE_cons rfl (by assumption) rfl (rfl)))))))))⟩
  · intro x; obtain ⟨y0, y1, y2, y3, y4, y5, y6, y7, y8, y9, y10⟩ := x; kernel_rfl
  · intro x z; obtain ⟨y0, y1, y2, y3, y4, y5, y6, y7, y8, y9, y10⟩ := x; exact (And.intro rfl trivial)

def kpn (x0 : Int) (x1 : Int) (x2 : Int) (x3 : Int) (x4 : List (Int × ByteArray × Int)) (x5 : List (Int × Int)) (x6 : List Int) (x7 : List Int) (x8 : List Int) (x9 : List (Int × Int × Int)) (x10 : List Int) : Int × Int × Int × Int × List Int × List Int × List Int × List Int × List (Int × Int × Int) × List (Int × ByteArray × Int) × List (Int × Int) :=
  (x3, x0, x1, x2, x10, x6, x7, x8, x9, x4, x5)

def kt5 (x0 : Int) (x1 : Int) (x2 : Int) (x3 : Int) (x4 : List (Int × ByteArray × Int)) (x5 : List (Int × Int)) (x6 : List Int) (x7 : List Int) (x8 : List Int) (x9 : List (Int × Int × Int)) (x10 : List Int) : List Int × List Int × List Int × List (Int × Int × Int) × List (Int × ByteArray × Int) × List (Int × Int) :=
  Prod.snd (Prod.snd (Prod.snd (Prod.snd (Prod.snd (Prod.snd (Lp.res k7y (kpn x0 x1 x2 x3 x4 x5 x6 x7 x8 x9 x10)))))))

def ktb (x0 : Int) (x1 : Int) (x2 : Int) (x3 : Int) (x4 : List (Int × ByteArray × Int)) (x5 : List (Int × Int)) (x6 : List Int) (x7 : List Int) (x8 : List Int) (x9 : List (Int × Int × Int)) (x10 : List Int) : List Int × List Int × List (Int × Int × Int) × List (Int × ByteArray × Int) × List (Int × Int) :=
  Prod.snd (kt5 x0 x1 x2 x3 x4 x5 x6 x7 x8 x9 x10)

def kte (x0 : Int) (x1 : Int) (x2 : Int) (x3 : Int) (x4 : List (Int × ByteArray × Int)) (x5 : List (Int × Int)) (x6 : List Int) (x7 : List Int) (x8 : List Int) (x9 : List (Int × Int × Int)) (x10 : List Int) : List Int × List (Int × Int × Int) × List (Int × ByteArray × Int) × List (Int × Int) :=
  Prod.snd (ktb x0 x1 x2 x3 x4 x5 x6 x7 x8 x9 x10)

def kuk (x0 : Int) (x1 : Int) (x2 : Int) (x3 : Int) (x4 : List (Int × ByteArray × Int)) (x5 : List (Int × Int)) (x6 : List Int) (x7 : List Int) (x8 : List Int) (x9 : List (Int × Int × Int)) (x10 : List Int) : Int :=
  Prod.fst (Prod.snd (Lp.res k7y (kpn x0 x1 x2 x3 x4 x5 x6 x7 x8 x9 x10)))

def kuv (x0 : Int) (x1 : Int) (x2 : Int) (x3 : Int) (x4 : List (Int × ByteArray × Int)) (x5 : List (Int × Int)) (x6 : List Int) (x7 : List Int) (x8 : List Int) (x9 : List (Int × Int × Int)) (x10 : List Int) : List Int :=
  Prod.fst (kt5 x0 x1 x2 x3 x4 x5 x6 x7 x8 x9 x10)

def kur (x0 : Int) (x1 : Int) (x2 : Int) (x3 : Int) (x4 : List (Int × ByteArray × Int)) (x5 : List (Int × Int)) (x6 : List Int) (x7 : List Int) (x8 : List Int) (x9 : List (Int × Int × Int)) (x10 : List Int) : List Int :=
  Prod.fst (ktb x0 x1 x2 x3 x4 x5 x6 x7 x8 x9 x10)

def kub (x0 : Int) (x1 : Int) (x2 : Int) (x3 : Int) (x4 : List (Int × ByteArray × Int)) (x5 : List (Int × Int)) (x6 : List Int) (x7 : List Int) (x8 : List Int) (x9 : List (Int × Int × Int)) (x10 : List Int) : List Int :=
  Prod.fst (kte x0 x1 x2 x3 x4 x5 x6 x7 x8 x9 x10)

def kuh (x0 : Int) (x1 : Int) (x2 : Int) (x3 : Int) (x4 : List (Int × ByteArray × Int)) (x5 : List (Int × Int)) (x6 : List Int) (x7 : List Int) (x8 : List Int) (x9 : List (Int × Int × Int)) (x10 : List Int) : List (Int × (Int × Int)) :=
  Prod.fst (Prod.snd (kte x0 x1 x2 x3 x4 x5 x6 x7 x8 x9 x10))

def kuo (x0 : Int) (x1 : Int) (x2 : Int) (x3 : Int) (x4 : List (Int × ByteArray × Int)) (x5 : List (Int × Int)) (x6 : List Int) (x7 : List Int) (x8 : List Int) (x9 : List (Int × Int × Int)) (x10 : List Int) : Bool :=
  allT
  [leN (List.length x6) (1048576 : Nat), leN (List.length x7) (1048576 : Nat), leN (List.length x8) (1048576 : Nat),
    leN ((0 : Nat) + List.length x9) (9223372036854775807 : Nat), leN (((0 : Nat) + List.length x9) * (24 : Nat)) (140737488355328 : Nat),
    Lp.fin k7y (kpn x0 x1 x2 x3 x4 x5 x6 x7 x8 x9 x10)]

def kyc : List SV → List Entry → Option Out
  | [.one ⟨true, [.val (.int .i64 x0), .val (.int .i64 x1), .val (.int .i64 x2), .ref 0, .ref 1]⟩, .one ⟨true, [.val (.int .i64 x3), .ref 2, .ref 3, .ref 4, .ref 5]⟩, .one ⟨false, [.ref 6]⟩], [.row false 178 (.pair (.int .i64) (.pair (.str) (.int .i64))) x4, .row false 150 (.pair (.int .i64) (.int .i64)) x5, .row false 2 (.int .i64) x6, .row false 2 (.int .i64) x7, .row false 2 (.int .i64) x8, .row false 172 (.pair (.int .i64) (.pair (.int .i64) (.int .i64))) x9, .row false 2 (.int .i64) x10] => some ⟨(.one ⟨true, [(.val (.int IntKind.i64 (kuk x0 x1 x2 x3 x4 x5 x6 x7 x8 x9 x10))), (.ref 7), (.ref 8), (.ref 9), (.ref 10)]⟩), [(.row false 178 (CTy.pair (CTy.int IntKind.i64) (CTy.pair CTy.str (CTy.int IntKind.i64))) x4), (.row false 150 (CTy.pair (CTy.int IntKind.i64) (CTy.int IntKind.i64)) x5), (.row false 2 (CTy.int IntKind.i64) x6), (.row false 2 (CTy.int IntKind.i64) x7), (.row false 2 (CTy.int IntKind.i64) x8), (.row false 172 (CTy.pair (CTy.int IntKind.i64) (CTy.pair (CTy.int IntKind.i64) (CTy.int IntKind.i64))) x9), (.row false 2 (CTy.int IntKind.i64) x10)], [(.row false 2 (CTy.int IntKind.i64) (kuv x0 x1 x2 x3 x4 x5 x6 x7 x8 x9 x10)), (.row false 2 (CTy.int IntKind.i64) (kur x0 x1 x2 x3 x4 x5 x6 x7 x8 x9 x10)), (.row false 2 (CTy.int IntKind.i64) (kub x0 x1 x2 x3 x4 x5 x6 x7 x8 x9 x10)), (.row false 172 (CTy.pair (CTy.int IntKind.i64) (CTy.pair (CTy.int IntKind.i64) (CTy.int IntKind.i64))) (kuh x0 x1 x2 x3 x4 x5 x6 x7 x8 x9 x10))], [(kuo x0 x1 x2 x3 x4 x5 x6 x7 x8 x9 x10)]⟩
  | _, _ => none

def k14c : PF Tryz.prog := PF.ofG Tryz.prog [klq, PF.lend klq, PF.fz klq, kji, PF.lend kji, PF.fz kji] [(fun s => k7y.F (aliasS [(576, 1), (576, 2), (576, 3), (576, 4)] s))] hmix 127 Tryz.f127 Tryz.func127 (LOk.fnT (l := [loopAt Tryz.f127 0]) (by kernel_rfl) (.cons (kyj.alias [(576, 1), (576, 2), (576, 3), (576, 4)]) (.nil _))) kyc (by
  intro vs es r h; unfold kyc at h; split at h
  · cases h; kernel_rfl
  · cases h)

end Go.SX

namespace Go.SX
open Go.Proofs
set_option maxRecDepth 100000

def k5t (x8 : List Int) : Int :=
  Option.getD x8[Int.toNat (0 : Int)]? (0 : Int)

def k1y (x4 : Int) (x6 : List (Int × ByteArray × Int)) : Int × ByteArray × Int :=
  Option.getD x6[Int.toNat x4]? ((0 : Int), ByteArray.empty, (0 : Int))

def k18 (x4 : Int) (x13 : List (Int × Int × Int)) : Int × Int × Int :=
  Option.getD x13[Int.toNat x4]? ((0 : Int), (0 : Int), (0 : Int))

def k1f (x3 : Int) (x4 : Int) : Bool :=
  x3 == (1 : Int) || (x3 == (2 : Int) || (x3 == (3 : Int) || (x3 == (4 : Int) || (x3 == (5 : Int) || (x3 == (6 : Int) || leI (0 : Int) x4)))))

def k1m (x3 : Int) (x4 : Int) (x13 : List (Int × Int × Int)) : Bool :=
  x3 == (1 : Int) ||
  (x3 == (2 : Int) || (x3 == (3 : Int) || (x3 == (4 : Int) || (x3 == (5 : Int) || (x3 == (6 : Int) || ltI x4 (↑(List.length x13) : Int))))))

def k1n (x3 : Int) (x4 : Int) (x13 : List (Int × Int × Int)) : Bool :=
  x3 == (1 : Int) ||
  (x3 == (2 : Int) || (x3 == (3 : Int) || (x3 == (4 : Int) || (x3 == (5 : Int) || (x3 == (6 : Int) || ltN (Int.toNat x4) (List.length x13))))))

def k1j (x3 : Int) (x4 : Int) (x6 : List (Int × ByteArray × Int)) (x8 : List Int) (x9 : List Int) (x11 : List Int) (x13 : List (Int × Int × Int)) : Int :=
  bif x3 == (1 : Int) then x4
  else
  bif x3 == (2 : Int) then Option.getD x9[Int.toNat x4]? (0 : Int)
  else
    bif x3 == (3 : Int) then Option.getD x11[Int.toNat x4]? (0 : Int)
    else
      bif x3 == (4 : Int) then IntKind.wrap IntKind.i64 ((1 : Int) - k5t x8)
      else
        bif x3 == (5 : Int) then
          IntKind.wrap IntKind.i64
            (↑(BitVec.toNat
                  (BitVec.ofInt (IntKind.bits IntKind.i64) (k5t x8) &&&
                    BitVec.ofInt (IntKind.bits IntKind.i64) (Option.getD x8[Int.toNat (1 : Int)]? (0 : Int)))) :
              Int)
        else
          bif x3 == (6 : Int) then
            IntKind.wrap IntKind.i64
              (↑(BitVec.toNat
                    (BitVec.ofInt (IntKind.bits IntKind.i64) (k5t x8) |||
                      BitVec.ofInt (IntKind.bits IntKind.i64) (Option.getD x8[Int.toNat (1 : Int)]? (0 : Int)))) :
                Int)
          else
            kol (Prod.fst (k1y x4 x6))
              (Prod.snd (Prod.snd (k1y x4 x6)))
              (Prod.fst (k18 x4 x13))
              (Prod.fst (Prod.snd (k18 x4 x13)))
              (Prod.snd (Prod.snd (k18 x4 x13))) x8

def ka3 (x3 : Int) (x5 : Int) : Int :=
  bif x3 == (1 : Int) then x5
  else
  bif x3 == (2 : Int) then x5
  else bif x3 == (3 : Int) then x5 else bif x3 == (4 : Int) then x5 else bif x3 == (5 : Int) then x5 else bif x3 == (6 : Int) then x5 else x5

def ka1 (x3 : Int) (x8 : List Int) : List Int :=
  bif x3 == (1 : Int) then x8
  else
  bif x3 == (2 : Int) then x8
  else bif x3 == (3 : Int) then x8 else bif x3 == (4 : Int) then x8 else bif x3 == (5 : Int) then x8 else bif x3 == (6 : Int) then x8 else x8

def kaa (x3 : Int) (x10 : List Int) : List Int :=
  bif x3 == (1 : Int) then x10
  else
  bif x3 == (2 : Int) then x10
  else bif x3 == (3 : Int) then x10 else bif x3 == (4 : Int) then x10 else bif x3 == (5 : Int) then x10 else bif x3 == (6 : Int) then x10 else x10

def k9z (x3 : Int) (x11 : List Int) : List Int :=
  bif x3 == (1 : Int) then x11
  else
  bif x3 == (2 : Int) then x11
  else bif x3 == (3 : Int) then x11 else bif x3 == (4 : Int) then x11 else bif x3 == (5 : Int) then x11 else bif x3 == (6 : Int) then x11 else x11

def ka8 (x3 : Int) (x12 : List Int) : List Int :=
  bif x3 == (1 : Int) then x12
  else
  bif x3 == (2 : Int) then x12
  else bif x3 == (3 : Int) then x12 else bif x3 == (4 : Int) then x12 else bif x3 == (5 : Int) then x12 else bif x3 == (6 : Int) then x12 else x12

def k3o (x3 : Int) (x4 : Int) (x6 : List (Int × ByteArray × Int)) (x8 : List Int) (x13 : List (Int × Int × Int)) : List (Int × (Int × Int)) :=
  bif x3 == (1 : Int) then x13
  else
  bif x3 == (2 : Int) then x13
  else
    bif x3 == (3 : Int) then x13
    else
      bif x3 == (4 : Int) then x13
      else
        bif x3 == (5 : Int) then x13
        else
          bif x3 == (6 : Int) then x13
          else
            List.set x13 (Int.toNat x4)
              (kn7 (Prod.fst (k1y x4 x6))
                  (Prod.snd (Prod.snd (k1y x4 x6)))
                  (Prod.fst (k18 x4 x13))
                  (Prod.fst (Prod.snd (k18 x4 x13)))
                  (Prod.snd (Prod.snd (k18 x4 x13))) x8,
                kn5 (Prod.fst (k1y x4 x6))
                  (Prod.fst (Prod.snd (k18 x4 x13)))
                  (Prod.snd (Prod.snd (k18 x4 x13))) x8,
                kn4 (Prod.fst (k1y x4 x6))
                  (Prod.snd (Prod.snd (k1y x4 x6)))
                  (Prod.fst (k18 x4 x13))
                  (Prod.fst (Prod.snd (k18 x4 x13)))
                  (Prod.snd (Prod.snd (k18 x4 x13))) x8)

def kg (x3 : Int) (x4 : Int) (x6 : List (Int × ByteArray × Int)) (x8 : List Int) (x9 : List Int) (x11 : List Int) (x13 : List (Int × Int × Int)) : Bool :=
  allT
  [x3 == (1 : Int) || (!x3 == (2 : Int) || leI (0 : Int) x4), x3 == (1 : Int) || (!x3 == (2 : Int) || ltI x4 (↑(List.length x9) : Int)),
    x3 == (1 : Int) || (!x3 == (2 : Int) || ltN (Int.toNat x4) (List.length x9)),
    x3 == (1 : Int) || (x3 == (2 : Int) || (!x3 == (3 : Int) || leI (0 : Int) x4)),
    x3 == (1 : Int) || (x3 == (2 : Int) || (!x3 == (3 : Int) || ltI x4 (↑(List.length x11) : Int))),
    x3 == (1 : Int) || (x3 == (2 : Int) || (!x3 == (3 : Int) || ltN (Int.toNat x4) (List.length x11))),
    x3 == (1 : Int) || (x3 == (2 : Int) || (x3 == (3 : Int) || (!x3 == (4 : Int) || leI (0 : Int) (0 : Int)))),
    x3 == (1 : Int) || (x3 == (2 : Int) || (x3 == (3 : Int) || (!x3 == (4 : Int) || ltI (0 : Int) (↑(List.length x8) : Int)))),
    x3 == (1 : Int) || (x3 == (2 : Int) || (x3 == (3 : Int) || (!x3 == (4 : Int) || ltN (Int.toNat (0 : Int)) (List.length x8)))),
    x3 == (1 : Int) || (x3 == (2 : Int) || (x3 == (3 : Int) || (x3 == (4 : Int) || (!x3 == (5 : Int) || leI (0 : Int) (0 : Int))))),
    x3 == (1 : Int) || (x3 == (2 : Int) || (x3 == (3 : Int) || (x3 == (4 : Int) || (!x3 == (5 : Int) || ltI (0 : Int) (↑(List.length x8) : Int))))),
    x3 == (1 : Int) ||
      (x3 == (2 : Int) || (x3 == (3 : Int) || (x3 == (4 : Int) || (!x3 == (5 : Int) || ltN (Int.toNat (0 : Int)) (List.length x8))))),
    x3 == (1 : Int) || (x3 == (2 : Int) || (x3 == (3 : Int) || (x3 == (4 : Int) || (!x3 == (5 : Int) || leI (0 : Int) (1 : Int))))),
    x3 == (1 : Int) || (x3 == (2 : Int) || (x3 == (3 : Int) || (x3 == (4 : Int) || (!x3 == (5 : Int) || ltI (1 : Int) (↑(List.length x8) : Int))))),
    x3 == (1 : Int) ||
      (x3 == (2 : Int) || (x3 == (3 : Int) || (x3 == (4 : Int) || (!x3 == (5 : Int) || ltN (Int.toNat (1 : Int)) (List.length x8))))),
    x3 == (1 : Int) ||
      (x3 == (2 : Int) || (x3 == (3 : Int) || (x3 == (4 : Int) || (x3 == (5 : Int) || (!x3 == (6 : Int) || leI (0 : Int) (0 : Int)))))),
    x3 == (1 : Int) ||
      (x3 == (2 : Int) ||
        (x3 == (3 : Int) || (x3 == (4 : Int) || (x3 == (5 : Int) || (!x3 == (6 : Int) || ltI (0 : Int) (↑(List.length x8) : Int)))))),
    x3 == (1 : Int) ||
      (x3 == (2 : Int) ||
        (x3 == (3 : Int) || (x3 == (4 : Int) || (x3 == (5 : Int) || (!x3 == (6 : Int) || ltN (Int.toNat (0 : Int)) (List.length x8)))))),
    x3 == (1 : Int) ||
      (x3 == (2 : Int) || (x3 == (3 : Int) || (x3 == (4 : Int) || (x3 == (5 : Int) || (!x3 == (6 : Int) || leI (0 : Int) (1 : Int)))))),
    x3 == (1 : Int) ||
      (x3 == (2 : Int) ||
        (x3 == (3 : Int) || (x3 == (4 : Int) || (x3 == (5 : Int) || (!x3 == (6 : Int) || ltI (1 : Int) (↑(List.length x8) : Int)))))),
    x3 == (1 : Int) ||
      (x3 == (2 : Int) ||
        (x3 == (3 : Int) || (x3 == (4 : Int) || (x3 == (5 : Int) || (!x3 == (6 : Int) || ltN (Int.toNat (1 : Int)) (List.length x8)))))),
    k1f x3 x4,
    x3 == (1 : Int) ||
      (x3 == (2 : Int) || (x3 == (3 : Int) || (x3 == (4 : Int) || (x3 == (5 : Int) || (x3 == (6 : Int) || ltI x4 (↑(List.length x6) : Int)))))),
    x3 == (1 : Int) ||
      (x3 == (2 : Int) || (x3 == (3 : Int) || (x3 == (4 : Int) || (x3 == (5 : Int) || (x3 == (6 : Int) || ltN (Int.toNat x4) (List.length x6)))))),
    k1f x3 x4, k1m x3 x4 x13,
    k1n x3 x4 x13,
    x3 == (1 : Int) || (x3 == (2 : Int) || (x3 == (3 : Int) || (x3 == (4 : Int) || (x3 == (5 : Int) || (x3 == (6 : Int) || kom x8))))),
    k1f x3 x4, k1m x3 x4 x13,
    k1n x3 x4 x13]

def kf0 : List SV → List Entry → Option Out
  | [.one ⟨false, [.ptr 0 0]⟩, .one ⟨true, [.val (.int .i64 _x0), .val (.int .i64 _x1), .val (.int .i64 _x2), .ref 1, .ref 2]⟩, .one ⟨true, [.val (.int .i64 x3), .val (.int .i64 x4)]⟩, .one ⟨false, [.ref 3]⟩, .one ⟨false, [.ref 4]⟩], [.box 77 [.val (.int .i64 x5), .ref 5, .ref 6, .ref 7, .ref 8], .row false 178 (.pair (.int .i64) (.pair .str (.int .i64))) x6, .row false 150 (.pair (.int .i64) (.int .i64)) x7, .row true 2 (.int .i64) x8, .row false 2 (.int .i64) x9, .row true 2 (.int .i64) x10, .row true 2 (.int .i64) x11, .row true 2 (.int .i64) x12, .row true 172 (.pair (.int .i64) (.pair (.int .i64) (.int .i64))) x13] => some ⟨(.one ⟨false, [(.val (.int IntKind.i64 (k1j x3 x4 x6 x8 x9 x11 x13)))]⟩), [(.box 77 [(.val (.int IntKind.i64 (ka3 x3 x5))), (.ref 5), (.ref 6), (.ref 7), (.ref 8)]), (.row false 178 (CTy.pair (CTy.int IntKind.i64) (CTy.pair CTy.str (CTy.int IntKind.i64))) x6), (.row false 150 (CTy.pair (CTy.int IntKind.i64) (CTy.int IntKind.i64)) x7), (.row true 2 (CTy.int IntKind.i64) (ka1 x3 x8)), (.row false 2 (CTy.int IntKind.i64) x9), (.row true 2 (CTy.int IntKind.i64) (kaa x3 x10)), (.row true 2 (CTy.int IntKind.i64) (k9z x3 x11)), (.row true 2 (CTy.int IntKind.i64) (ka8 x3 x12)), (.row true 172 (CTy.pair (CTy.int IntKind.i64) (CTy.pair (CTy.int IntKind.i64) (CTy.int IntKind.i64))) (k3o x3 x4 x6 x8 x13))], [], [(kg x3 x4 x6 x8 x9 x11 x13)]⟩
  | _, _ => none

def kmt : PF Tryz.prog := PF.ofG Tryz.prog [k12n, PF.lend k12n, PF.fz k12n] [] hmix 198 Tryz.f198 Tryz.func198 (fun c _ => LOk.nil c) kf0 (by
  intro vs es r h; unfold kf0 at h; split at h
  · cases h; kernel_rfl
  · cases h)

def k9b (x3 : List Int) : Int :=
  Option.getD x3[Int.toNat (0 : Int)]? (0 : Int)

def k9q (x0 : Int) (x1 : Int) (x3 : List Int) (x6 : List Int) : List Int :=
  bif x0 == (8 : Int) then List.set x6 (Int.toNat x1) (k9b x3) else x6

def k5o (x0 : Int) (x1 : Int) (x3 : List Int) (x4 : List Int) (x6 : List Int) (x7 : List Int) : List Int :=
  bif x0 == (8 : Int) then x7
  else
  bif x0 == (9 : Int) then List.set x7 (Int.toNat x1) (k9b x3)
  else
    bif x0 == (10 : Int) then bif Option.getD x4[Int.toNat x1]? (0 : Int) == (0 : Int) then zeros (List.length x7) else x7
    else bif x0 == (11 : Int) then bif Option.getD x6[Int.toNat x1]? (0 : Int) == (0 : Int) then zeros (List.length x7) else x7 else x7

def k1g (x0 : Int) (x1 : Int) (x3 : List Int) (x4 : List Int) (x6 : List Int) (x7 : List Int) : Bool :=
  allT
  [!x0 == (8 : Int) || leI (0 : Int) (0 : Int), !x0 == (8 : Int) || ltI (0 : Int) (↑(List.length x3) : Int),
    !x0 == (8 : Int) || ltN (Int.toNat (0 : Int)) (List.length x3), !x0 == (8 : Int) || leI (0 : Int) x1,
    !x0 == (8 : Int) || ltI x1 (↑(List.length x6) : Int), !x0 == (8 : Int) || ltN (Int.toNat x1) (List.length x6),
    x0 == (8 : Int) || (!x0 == (9 : Int) || leI (0 : Int) (0 : Int)),
    x0 == (8 : Int) || (!x0 == (9 : Int) || ltI (0 : Int) (↑(List.length x3) : Int)),
    x0 == (8 : Int) || (!x0 == (9 : Int) || ltN (Int.toNat (0 : Int)) (List.length x3)), x0 == (8 : Int) || (!x0 == (9 : Int) || leI (0 : Int) x1),
    x0 == (8 : Int) || (!x0 == (9 : Int) || ltI x1 (↑(List.length x7) : Int)),
    x0 == (8 : Int) || (!x0 == (9 : Int) || ltN (Int.toNat x1) (List.length x7)),
    x0 == (8 : Int) || (x0 == (9 : Int) || (!x0 == (10 : Int) || leI (0 : Int) x1)),
    x0 == (8 : Int) || (x0 == (9 : Int) || (!x0 == (10 : Int) || ltI x1 (↑(List.length x4) : Int))),
    x0 == (8 : Int) || (x0 == (9 : Int) || (!x0 == (10 : Int) || ltN (Int.toNat x1) (List.length x4))),
    x0 == (8 : Int) || (x0 == (9 : Int) || (x0 == (10 : Int) || (!x0 == (11 : Int) || leI (0 : Int) x1))),
    x0 == (8 : Int) || (x0 == (9 : Int) || (x0 == (10 : Int) || (!x0 == (11 : Int) || ltI x1 (↑(List.length x6) : Int)))),
    x0 == (8 : Int) || (x0 == (9 : Int) || (x0 == (10 : Int) || (!x0 == (11 : Int) || ltN (Int.toNat x1) (List.length x6))))]

def keo : List SV → List Entry → Option Out
  | [.one ⟨false, [.ptr 0 0]⟩, .one ⟨true, [.val (.int .i64 x0), .val (.int .i64 x1)]⟩, .one ⟨false, [.ref 1]⟩, .one ⟨false, [.ref 2]⟩], [.box 77 [.val (.int .i64 x2), .ref 3, .ref 4, .ref 5, .ref 6], .row true 2 (.int .i64) x3, .row false 2 (.int .i64) x4, .row true 2 (.int .i64) x5, .row true 2 (.int .i64) x6, .row true 2 (.int .i64) x7, .row true 172 (.pair (.int .i64) (.pair (.int .i64) (.int .i64))) x8] => some ⟨(.tup []), [(.box 77 [(.val (.int IntKind.i64 x2)), (.ref 3), (.ref 4), (.ref 5), (.ref 6)]), (.row true 2 (CTy.int IntKind.i64) x3), (.row false 2 (CTy.int IntKind.i64) x4), (.row true 2 (CTy.int IntKind.i64) x5), (.row true 2 (CTy.int IntKind.i64) (k9q x0 x1 x3 x6)), (.row true 2 (CTy.int IntKind.i64) (k5o x0 x1 x3 x4 x6 x7)), (.row true 172 (CTy.pair (CTy.int IntKind.i64) (CTy.pair (CTy.int IntKind.i64) (CTy.int IntKind.i64))) x8)], [], [(k1g x0 x1 x3 x4 x6 x7)]⟩
  | _, _ => none

def kls : PF Tryz.prog := PF.ofG Tryz.prog [] [] hmix 199 Tryz.f199 Tryz.func199 (fun c _ => LOk.nil c) keo (by
  intro vs es r h; unfold keo at h; split at h
  · cases h; kernel_rfl
  · cases h)

def kv (x0 : List (Int × Int)) : Int :=
  (↑(List.length x0) : Int)

def kmv : List SV → List Entry → Option Out
  | [.one ⟨false, [.ref 0]⟩], [.row false 150 (.pair (.int .i64) (.int .i64)) x0] => some ⟨(.one ⟨false, [(.val (.int IntKind.i64 (kv x0)))]⟩), [(.row false 150 (CTy.pair (CTy.int IntKind.i64) (CTy.int IntKind.i64)) x0)], [], []⟩
  | _, _ => none

def k2t : PF Tryz.prog := PF.ofG Tryz.prog [] [] hmix 124 Tryz.f124 Tryz.func124 (fun c _ => LOk.nil c) kmv (by
  intro vs es r h; unfold kmv at h; split at h
  · cases h; kernel_rfl
  · cases h)

def kqq (x0 : List Int) : Int :=
  (↑(List.length x0) : Int)

def kvn : List SV → List Entry → Option Out
  | [.one ⟨false, [.ref 0]⟩], [.row false 2 (.int .i64) x0] => some ⟨(.one ⟨false, [(.val (.int IntKind.i64 (kqq x0)))]⟩), [(.row false 2 (CTy.int IntKind.i64) x0)], [], []⟩
  | _, _ => none

def kvg : PF Tryz.prog := PF.ofG Tryz.prog [] [] hmix 197 Tryz.f197 Tryz.func197 (fun c _ => LOk.nil c) kvn (by
  intro vs es r h; unfold kvn at h; split at h
  · cases h; kernel_rfl
  · cases h)

end Go.SX

namespace Go.SX
open Go.Proofs
set_option maxRecDepth 100000

def atZ (l : List Int) (k : Int) : Int := Option.getD l[Int.toNat k]? (0 : Int)
def andI (a b : Int) : Int := bif a == 1 then b else 0
def orI (a b : Int) : Int := bif a == 1 then 1 else b
def argI (bs : List TM) (x : IN) (stk : List Int) : List Int := stk.drop (stk.length - (tkI bs x).toNat)
def rstI (bs : List TM) (x : IN) (stk : List Int) : List Int := stk.take (stk.length - (tkI bs x).toNat)
def valM (bs : List TM) (inp : List Int) (x : IN) (xs : List Int) (ss : List BS3) (ar : List Int) : Int :=
  bif x.1 == 1 then x.2 else bif x.1 == 2 then atZ inp x.2 else bif x.1 == 3 then atZ xs x.2 else bif x.1 == 4 then 1 - atZ ar 0
  else bif x.1 == 5 then andI (atZ ar 0) (atZ ar 1) else bif x.1 == 6 then orI (atZ ar 0) (atZ ar 1)
  else bif x.1 == 7 then valB (termAt bs x.2.toNat).1 (termAt bs x.2.toNat).2.2 ar (stAt ss x.2.toNat) else 0
def mskM (os : List Int) (z : Int) : List Int := bif z == 0 then List.replicate os.length 0 else os
def stkM (bs : List TM) (inp : List Int) (x : IN) (stk xs : List Int) (ss : List BS3) : List Int := bif gvI x == 1 then rstI bs x stk ++ [valM bs inp x xs ss (argI bs x stk)] else rstI bs x stk
def vlsM (bs : List TM) (x : IN) (stk xs : List Int) : List Int := bif x.1 == 8 then xs.set x.2.toNat (atZ (argI bs x stk) 0) else xs
def outM (bs : List TM) (inp : List Int) (x : IN) (stk xs os : List Int) : List Int := bif x.1 == 9 then os.set x.2.toNat (atZ (argI bs x stk) 0) else bif x.1 == 10 then mskM os (atZ inp x.2) else bif x.1 == 11 then mskM os (atZ xs x.2) else os
def blkM (bs : List TM) (x : IN) (stk : List Int) (ss : List BS3) : List BS3 := bif x.1 == 7 then ss.set x.2.toNat (nextB (termAt bs x.2.toNat).1 (termAt bs x.2.toNat).2.2 (argI bs x stk) (stAt ss x.2.toNat)) else ss

theorem k149 {i v o : Int} {bs : List TM} {x : IN} (hi : 0 ≤ i ∧ i ≤ 20) (hv : 0 ≤ v ∧ v ≤ 20) (ho : 0 ≤ o ∧ o ≤ 20) (hl : bs.length ≤ 2000) (h : fitI i v o bs x = true) :
    (x.1 = 1 ∧ (x.2 = 0 ∨ x.2 = 1)) ∨ (x.1 = 2 ∧ 0 ≤ x.2 ∧ x.2 < i) ∨ (x.1 = 3 ∧ 0 ≤ x.2 ∧ x.2 < v) ∨ x.1 = 4 ∨ x.1 = 5 ∨ x.1 = 6 ∨ (x.1 = 7 ∧ 0 ≤ x.2 ∧ x.2 < bs.length) ∨
    (x.1 = 8 ∧ 0 ≤ x.2 ∧ x.2 < v) ∨ (x.1 = 9 ∧ 0 ≤ x.2 ∧ x.2 < o) ∨ (x.1 = 10 ∧ 0 ≤ x.2 ∧ x.2 < i) ∨ (x.1 = 11 ∧ 0 ≤ x.2 ∧ x.2 < v) := by
  have w1 : IntKind.i64.wrap (i - 1) = i - 1 := wrap_i64 (by omega) (by omega)
  have w2 : IntKind.i64.wrap (v - 1) = v - 1 := wrap_i64 (by omega) (by omega)
  have w3 : IntKind.i64.wrap (o - 1) = o - 1 := wrap_i64 (by omega) (by omega)
  have w4 : IntKind.i64.wrap ((bs.length : Int) - 1) = bs.length - 1 := wrap_i64 (by omega) (by omega)
  simp only [fitI, kh7, k1u, w1, w2, w3, w4] at h
  by_cases h1 : x.1 = 1
  · simp [h1, Bool.cond_eq_ite] at h; omega
  by_cases h2 : x.1 = 2
  · simp [h2, Bool.cond_eq_ite] at h; omega
  by_cases h3 : x.1 = 3
  · simp [h3, Bool.cond_eq_ite] at h; omega
  by_cases h4 : x.1 = 4
  · omega
  by_cases h5 : x.1 = 5
  · omega
  by_cases h6 : x.1 = 6
  · omega
  by_cases h7 : x.1 = 7
  · simp [h7, Bool.cond_eq_ite] at h; omega
  by_cases h8 : x.1 = 8
  · simp [h8, Bool.cond_eq_ite] at h; omega
  by_cases h9 : x.1 = 9
  · simp [h9, Bool.cond_eq_ite] at h; omega
  by_cases h10 : x.1 = 10
  · simp [h10, Bool.cond_eq_ite] at h; omega
  by_cases h11 : x.1 = 11
  · simp [h11, Bool.cond_eq_ite] at h; omega
  simp [h1, h2, h3, h4, h5, h6, h7, h8, h9, h10, h11] at h

theorem k11o {i v o : Int} {bs : List TM} : ∀ (l1 l2 : List IN) (n : Int) (acc : List Int), hgt i v o bs (l1 ++ l2) n acc = match hgt i v o bs l1 n acc with | some (m, a) => hgt i v o bs l2 m a | none => none
  | [], l2, n, acc => rfl
  | x :: r, l2, n, acc => by
    simp only [List.cons_append, hgt]
    cases (fitI i v o bs x && (leI (tkI bs x) n && leI (n - tkI bs x + gvI x) 40)) with
    | false => rfl
    | true => simp only [cond_true]; exact k11o r l2 _ _

/-- The instruction at a place fits its height. -/
theorem hgt_at {i v o : Int} {bs : List TM} {st : List IN} (hok : hgtOk i v o bs st = true) {k : Nat} (hk : k < st.length) {n : Int} {L : List Int} (h : hgt i v o bs (st.take k) 0 [] = some (n, L)) :
    fitI i v o bs st[k] = true ∧ tkI bs st[k] ≤ n ∧ n - tkI bs st[k] + gvI st[k] ≤ 40 ∧ hgt i v o bs (st.take (k + 1)) 0 [] = some (n - tkI bs st[k] + gvI st[k], L ++ [n - tkI bs st[k] + gvI st[k]]) := by
  have hs : st = st.take k ++ st[k] :: st.drop (k + 1) := by rw [List.getElem_cons_drop, List.take_append_drop]
  have h1 := k11o (i := i) (v := v) (o := o) (bs := bs) (st.take k) (st[k] :: st.drop (k + 1)) 0 []
  rw [← hs, h] at h1
  simp only [hgt] at h1
  cases hc : (fitI i v o bs st[k] && (leI (tkI bs st[k]) n && leI (n - tkI bs st[k] + gvI st[k]) 40)) with
  | false =>
    rw [hc] at h1
    simp only [hgtOk, h1, cond_false] at hok
    cases hok
  | true =>
    have h2 := k11o (i := i) (v := v) (o := o) (bs := bs) (st.take k) [st[k]] 0 []
    rw [h] at h2
    simp only [hgt, hc, cond_true] at h2
    simp only [Bool.and_eq_true, leI_iff] at hc
    refine ⟨hc.1, hc.2.1, hc.2.2, ?_⟩
    rw [← h2, List.take_succ_eq_append_getElem hk]

/-- Heights stay in bounds. -/
theorem k16m {i v o : Int} {bs : List TM} : ∀ (l : List IN) (n : Int) (acc : List Int) (m : Int) (L : List Int), 0 ≤ n ∧ n ≤ 40 → hgt i v o bs l n acc = some (m, L) → 0 ≤ m ∧ m ≤ 40
  | [], n, acc, m, L, hn, h => by simp only [hgt, Option.some.injEq, Prod.mk.injEq] at h; omega
  | x :: r, n, acc, m, L, hn, h => by
    simp only [hgt] at h
    have hg := gvI_in x
    cases hc : (fitI i v o bs x && (leI (tkI bs x) n && leI (n - tkI bs x + gvI x) 40)) with
    | false => rw [hc] at h; cases h
    | true =>
      rw [hc, cond_true] at h
      simp only [Bool.and_eq_true, leI_iff] at hc
      exact k16m r _ _ m L (by omega) h

/-- Heights that are there stay. -/
theorem k180 {i v o : Int} {bs : List TM} : ∀ (l : List IN) (n : Int) (acc : List Int) (m : Int) (L : List Int), hgt i v o bs l n acc = some (m, L) → ∃ r, L = acc ++ r
  | [], n, acc, m, L, h => by simp only [hgt, Option.some.injEq, Prod.mk.injEq] at h; exact ⟨[], by rw [List.append_nil]; exact h.2.symm⟩
  | x :: r, n, acc, m, L, h => by
    simp only [hgt] at h
    cases hc : (fitI i v o bs x && (leI (tkI bs x) n && leI (n - tkI bs x + gvI x) 40)) with
    | false => rw [hc] at h; cases h
    | true =>
      rw [hc, cond_true] at h
      obtain ⟨q, hq⟩ := k180 r _ _ m L h
      exact ⟨(n - tkI bs x + gvI x) :: q, by rw [hq, List.append_assoc]; rfl⟩

/-- The height at a place, as the list of heights has it. -/
theorem k17z {i v o : Int} {bs : List TM} {st : List IN} (hok : hgtOk i v o bs st = true) : ∀ (k : Nat), k ≤ st.length →
    ∃ n L, hgt i v o bs (st.take k) 0 [] = some (n, L) ∧ (0 ≤ n ∧ n ≤ 40) ∧ (k = 0 → n = 0) ∧ (0 < k → atZ (hgtL i v o bs st) ((k : Int) - 1) = n)
  | 0, _ => ⟨0, [], by simp [hgt], by omega, fun _ => rfl, fun h => by omega⟩
  | k + 1, hk => by
    obtain ⟨n, L, h1, h2, _, _⟩ := k17z hok k (by omega)
    obtain ⟨g1, g2, g3, g4⟩ := hgt_at hok (k := k) (by omega) h1
    refine ⟨_, _, g4, k16m _ _ _ _ _ (by omega) g4, fun h => by omega, fun _ => ?_⟩
    have hs : st = st.take (k + 1) ++ st.drop (k + 1) := (List.take_append_drop ..).symm
    have hw := k11o (i := i) (v := v) (o := o) (bs := bs) (st.take (k + 1)) (st.drop (k + 1)) 0 []
    rw [← hs, g4] at hw
    simp only at hw
    unfold hgtL
    cases hh : hgt i v o bs st 0 [] with
    | none =>
      simp only [hgtOk, hh] at hok
      cases hok
    | some r =>
      obtain ⟨m, out⟩ := r
      rw [hh] at hw
      obtain ⟨q, hq⟩ := k180 _ _ _ _ _ hw.symm
      have hl := k17e _ _ _ _ _ h1
      rw [List.length_take, List.length_nil] at hl
      simp only [atZ]
      have hi : (((k + 1 : Nat) : Int) - 1).toNat = L.length := by omega
      rw [hi, hq, List.append_assoc, List.getElem?_append_right (Nat.le_refl _), Nat.sub_self]
      rfl

/-- A possible machine. -/
structure OkM (i v o : Int) (bs : List TM) (st : List IN) (k : Int) (stk xs os : List Int) (ss : List BS3) : Prop where
  lo : 0 ≤ k
  hi : k ≤ st.length
  hg : ∃ L, hgt i v o bs (st.take k.toNat) 0 [] = some ((stk.length : Int), L)
  bt : ∀ z ∈ stk, z = 0 ∨ z = 1
  vl : bitsB v xs = true
  ou : bitsB o os = true
  sl : ss.length = bs.length
  sp : ∀ k, k < bs.length → possAt bs ss k = true

theorem k13k {l : List Int} (h : ∀ z ∈ l, z = 0 ∨ z = 1) (k : Int) : atZ l k = 0 ∨ atZ l k = 1 := by
  unfold atZ
  cases hk : l[k.toNat]? with
  | none => exact .inl rfl
  | some z => exact h z (List.mem_of_getElem? hk)

theorem k174 {n : Int} {l : List Int} (h : bitsB n l = true) (k : Nat) {z : Int} (hz : z = 0 ∨ z = 1) : bitsB n (l.set k z) = true := by
  obtain ⟨h1, h2⟩ := kel.1 h
  refine kel.2 ⟨fun y hy => ?_, by rw [List.length_set]; exact h2⟩
  rcases List.mem_or_eq_of_mem_set hy with hy | rfl
  · exact h1 y hy
  · exact hz

theorem k16x {n : Int} {l : List Int} (h : bitsB n l = true) (z : Int) : bitsB n (mskM l z) = true := by
  unfold mskM
  cases z == 0 with
  | false => exact h
  | true =>
    refine kel.2 ⟨fun y hy => .inl (List.eq_of_mem_replicate hy), ?_⟩
    simp only [cond_true, List.length_replicate]
    exact (kel.1 h).2

/-- What a block gives is a bit. -/
theorem k18b {k n a b c : Int} {s : ByteArray} {l : List Int} (hB : blockB k s n = true) (hP : possB k n a b c = true) (hA : bitsB (takesK k) l = true) : k51 k n a b c l = 0 ∨ k51 k n a b c l = 1 := by
  obtain ⟨hk, hn, _⟩ := k14d hB
  have hb := (k14k hP hn).2.1
  have hc := (k14k hP hn).2.2
  have hp := hP
  rcases kinds hk with rfl | rfl | rfl | rfl | rfl | rfl
  · obtain ⟨x, rfl, hx⟩ := k12r hA
    rcases hx with rfl | rfl <;> simp only [k2k, k70, k91, k57, k8v, k94, k8u, k95, k7o, k51, k7f, k7m, k7d, k9y, k67, k71, k7s, k8z, k8x, kay, kb2, kb1, kb0, k7l] <;> simp [Bool.cond_eq_ite] <;> (repeat' split) <;> omega
  · obtain ⟨x, rfl, hx⟩ := k12r hA
    rcases hx with rfl | rfl <;> simp only [k2k, k70, k91, k57, k8v, k94, k8u, k95, k7o, k51, k7f, k7m, k7d, k9y, k67, k71, k7s, k8z, k8x, kay, kb2, kb1, kb0, k7l] <;> simp [Bool.cond_eq_ite] <;> (repeat' split) <;> omega
  · obtain ⟨x, rfl, hx⟩ := k12r hA
    simp [possB, k2u, k1u] at hp
    rcases hx with rfl | rfl <;> simp only [k2k, k70, k91, k57, k8v, k94, k8u, k95, k7o, k51, k7f, k7m, k7d, k9y, k67, k71, k7s, k8z, k8x, kay, kb2, kb1, kb0, k7l] <;> simp [Bool.cond_eq_ite] <;> (repeat' split) <;> omega
  · obtain ⟨x, y, rfl, hx, hy⟩ := k12z hA
    simp [possB, k2u, k1u] at hp
    rcases hx with rfl | rfl <;> rcases hy with rfl | rfl <;> simp only [k2k, k70, k91, k57, k8v, k94, k8u, k95, k7o, k51, k7f, k7m, k7d, k9y, k67, k71, k7s, k8z, k8x, kay, kb2, kb1, kb0, k7l] <;> simp [Bool.cond_eq_ite] <;> (repeat' split) <;> omega
  · obtain ⟨x, y, rfl, hx, hy⟩ := k12z hA
    rcases hb with rfl | rfl <;> rcases hc with rfl | rfl <;> rcases hx with rfl | rfl <;> rcases hy with rfl | rfl <;> simp only [k2k, k70, k91, k57, k8v, k94, k8u, k95, k7o, k51, k7f, k7m, k7d, k9y, k67, k71, k7s, k8z, k8x, kay, kb2, kb1, kb0, k7l] <;> simp [Bool.cond_eq_ite] <;> (repeat' split) <;> omega
  · obtain ⟨x, y, rfl, hx, hy⟩ := k12z hA
    rcases hb with rfl | rfl <;> rcases hc with rfl | rfl <;> rcases hx with rfl | rfl <;> rcases hy with rfl | rfl <;> simp only [k2k, k70, k91, k57, k8v, k94, k8u, k95, k7o, k51, k7f, k7m, k7d, k9y, k67, k71, k7s, k8z, k8x, kay, kb2, kb1, kb0, k7l] <;> simp [Bool.cond_eq_ite] <;> (repeat' split) <;> omega

theorem k189 {bs : List TM} {x : IN} {stk : List Int} (hb : ∀ z ∈ stk, z = 0 ∨ z = 1) (ht : tkI bs x ≤ stk.length) : bitsB (tkI bs x) (argI bs x stk) = true := by
  have h0 := (tkI_in bs x).1
  refine kel.2 ⟨fun z hz => hb z (List.mem_of_mem_drop hz), ?_⟩
  simp only [argI, List.length_drop]
  omega

theorem k158 {bs : List TM} {x : IN} {stk : List Int} (ht : tkI bs x ≤ stk.length) : ((rstI bs x stk).length : Int) = stk.length - tkI bs x := by
  have h0 := (tkI_in bs x).1
  simp only [rstI, List.length_take]
  omega

/-- A step of a possible machine. -/
theorem k175 {i v o : Int} {bs : List TM} {st : List IN} {inp : List Int} {k : Int} {stk xs os : List Int} {ss : List BS3} (hC : codeB i v o bs st = true) (hin : bitsB i inp = true)
    (h : OkM i v o bs st k stk xs os ss) (hlt : k < st.length) {x : IN} (hx : st[k.toNat]? = some x) :
    fitI i v o bs x = true ∧ tkI bs x ≤ stk.length ∧ bitsB (tkI bs x) (argI bs x stk) = true ∧ (valM bs inp x xs ss (argI bs x stk) = 0 ∨ valM bs inp x xs ss (argI bs x stk) = 1) ∧ stk.length ≤ 40 ∧
    OkM i v o bs st (k + 1) (stkM bs inp x stk xs ss) (vlsM bs x stk xs) (outM bs inp x stk xs os) (blkM bs x stk ss) := by
  simp only [codeB, Bool.and_eq_true] at hC
  obtain ⟨hr, hB, hok⟩ := hC
  obtain ⟨ri, rv, ro, rb, rs⟩ := kyf.1 hr
  have h0 := h.lo
  have hk : k.toNat < st.length := by omega
  have hxe : st[k.toNat] = x := by rw [List.getElem?_eq_getElem hk] at hx; exact Option.some.inj hx
  obtain ⟨L, hL⟩ := h.hg
  obtain ⟨g1, g2, g3, g4⟩ := hgt_at hok hk hL
  rw [hxe] at g1 g2 g3 g4
  have hab := k189 h.bt g2
  have hrl := k158 g2
  have t2 := tkI_in bs x
  have v2 := gvI_in x
  have hvb := (kel.1 h.vl).1
  have hob := (kel.1 h.ou).1
  have hib := (kel.1 hin).1
  have hargb := (kel.1 hab).1
  have ha0 := k13k hargb 0
  have ha1 := k13k hargb 1
  have hblk : x.1 = 7 → 0 ≤ x.2 ∧ x.2 < bs.length → k51 (termAt bs x.2.toNat).1 (termAt bs x.2.toNat).2.2 (stAt ss x.2.toNat).1 (stAt ss x.2.toNat).2.1 (stAt ss x.2.toNat).2.2 (argI bs x stk) = 0 ∨ k51 (termAt bs x.2.toNat).1 (termAt bs x.2.toNat).2.2 (stAt ss x.2.toNat).1 (stAt ss x.2.toNat).2.1 (stAt ss x.2.toNat).2.2 (argI bs x stk) = 1 := fun h7 hr7 => by
    have hlt7 : x.2.toNat < bs.length := by omega
    have hg7 : termAt bs x.2.toNat = bs[x.2.toNat] := by simp only [termAt, List.getElem?_eq_getElem hlt7]; rfl
    have hB7 : blockB (termAt bs x.2.toNat).1 (termAt bs x.2.toNat).2.1 (termAt bs x.2.toNat).2.2 = true := by rw [hg7]; exact List.all_eq_true.1 hB _ (List.getElem_mem hlt7)
    have htk : tkI bs x = takesK (termAt bs x.2.toNat).1 := by simp [tkI, k4l, kab, ka2, kec, h7, takesK, termAt]
    exact k18b hB7 (h.sp _ hlt7) (by rw [← htk]; exact hab)
  have hnx : x.1 = 7 → 0 ≤ x.2 ∧ x.2 < bs.length → possB (termAt bs x.2.toNat).1 (termAt bs x.2.toNat).2.2 (nextB (termAt bs x.2.toNat).1 (termAt bs x.2.toNat).2.2 (argI bs x stk) (stAt ss x.2.toNat)).1 (nextB (termAt bs x.2.toNat).1 (termAt bs x.2.toNat).2.2 (argI bs x stk) (stAt ss x.2.toNat)).2.1 (nextB (termAt bs x.2.toNat).1 (termAt bs x.2.toNat).2.2 (argI bs x stk) (stAt ss x.2.toNat)).2.2 = true := fun h7 hr7 => by
    have hlt7 : x.2.toNat < bs.length := by omega
    have hg7 : termAt bs x.2.toNat = bs[x.2.toNat] := by simp only [termAt, List.getElem?_eq_getElem hlt7]; rfl
    have hB7 : blockB (termAt bs x.2.toNat).1 (termAt bs x.2.toNat).2.1 (termAt bs x.2.toNat).2.2 = true := by rw [hg7]; exact List.all_eq_true.1 hB _ (List.getElem_mem hlt7)
    have htk : tkI bs x = takesK (termAt bs x.2.toNat).1 := by simp [tkI, k4l, kab, ka2, kec, h7, takesK, termAt]
    exact (k188 hB7 (h.sp _ hlt7) (by rw [← htk]; exact hab)).2
  have hval : valM bs inp x xs ss (argI bs x stk) = 0 ∨ valM bs inp x xs ss (argI bs x stk) = 1 := by
    rcases k149 ri rv ro rb g1 with ⟨e, q⟩ | ⟨e, q⟩ | ⟨e, q⟩ | e | e | e | ⟨e, q⟩ | ⟨e, q⟩ | ⟨e, q⟩ | ⟨e, q⟩ | ⟨e, q⟩
    · simp only [valM, e]; exact q
    · simp only [valM, e]; exact k13k hib _
    · simp only [valM, e]; exact k13k hvb _
    · simp only [valM, e]
      show 1 - atZ (argI bs x stk) 0 = 0 ∨ 1 - atZ (argI bs x stk) 0 = 1
      omega
    · simp only [valM, e]
      show andI (atZ (argI bs x stk) 0) (atZ (argI bs x stk) 1) = 0 ∨ andI (atZ (argI bs x stk) 0) (atZ (argI bs x stk) 1) = 1
      rcases ha0 with q | q <;> rw [q]
      · exact .inl rfl
      · exact ha1
    · simp only [valM, e]
      show orI (atZ (argI bs x stk) 0) (atZ (argI bs x stk) 1) = 0 ∨ orI (atZ (argI bs x stk) 0) (atZ (argI bs x stk) 1) = 1
      rcases ha0 with q | q <;> rw [q]
      · exact ha1
      · exact .inr rfl
    · have := hblk e q
      simp only [valM, e]
      exact this
    all_goals (simp only [valM, e]; exact .inl rfl)
  refine ⟨g1, g2, hab, hval, ?_, ⟨by omega, by omega, ?_, ?_, ?_, ?_, ?_, ?_⟩⟩
  · have := k16m _ _ _ _ _ (by omega) hL
    omega
  · refine ⟨L ++ [stk.length - tkI bs x + gvI x], ?_⟩
    have hs : (k + 1).toNat = k.toNat + 1 := by omega
    rw [hs, g4]
    have : ((stkM bs inp x stk xs ss).length : Int) = stk.length - tkI bs x + gvI x := by
      unfold stkM
      by_cases hgv : gvI x = 1
      · simp only [hgv, beq_self_eq_true, cond_true, List.length_append, List.length_singleton]; omega
      · have h1 : (gvI x == 1) = false := by simpa using hgv
        rw [h1, cond_false]; omega
    rw [this]
  · intro z hz
    unfold stkM at hz
    have hr : ∀ z ∈ rstI bs x stk, z = 0 ∨ z = 1 := fun z hz => h.bt z (List.mem_of_mem_take hz)
    cases hgv : (gvI x == 1) with
    | false => rw [hgv] at hz; exact hr z hz
    | true =>
      rw [hgv, cond_true] at hz
      rcases List.mem_append.1 hz with hz | hz
      · exact hr z hz
      · rw [List.mem_singleton.1 hz]; exact hval
  · unfold vlsM
    cases x.1 == 8 with
    | false => exact h.vl
    | true => exact k174 h.vl _ ha0
  · unfold outM
    cases x.1 == 9 with
    | true => exact k174 h.ou _ ha0
    | false =>
      cases x.1 == 10 with
      | true => exact k16x h.ou _
      | false =>
        cases x.1 == 11 with
        | true => exact k16x h.ou _
        | false => exact h.ou
  · unfold blkM
    cases x.1 == 7 with
    | false => exact h.sl
    | true => simp only [cond_true, List.length_set]; exact h.sl
  · intro k2 hk2
    unfold blkM
    cases h7 : x.1 == 7 with
    | false => exact h.sp k2 hk2
    | true =>
      simp only [cond_true]
      have h7 : x.1 = 7 := by simpa using h7
      have hq : 0 ≤ x.2 ∧ x.2 < bs.length := by
        rcases k149 ri rv ro rb g1 with ⟨e, q⟩ | ⟨e, q⟩ | ⟨e, q⟩ | e | e | e | ⟨e, q⟩ | ⟨e, q⟩ | ⟨e, q⟩ | ⟨e, q⟩ | ⟨e, q⟩ <;> first | exact q | omega
      by_cases he : k2 = x.2.toNat
      · subst he
        have := hnx h7 hq
        have hl : x.2.toNat < ss.length := by rw [h.sl]; omega
        unfold possAt
        have hs : stAt (ss.set x.2.toNat (nextB (termAt bs x.2.toNat).1 (termAt bs x.2.toNat).2.2 (argI bs x stk) (stAt ss x.2.toNat))) x.2.toNat = nextB (termAt bs x.2.toNat).1 (termAt bs x.2.toNat).2.2 (argI bs x stk) (stAt ss x.2.toNat) := by
          simp only [stAt, List.getElem?_set_self hl, Option.getD_some]
        rw [hs]; exact this
      · have hs : ∀ y, stAt (ss.set x.2.toNat y) k2 = stAt ss k2 := fun y => by
          simp only [stAt, List.getElem?_set_ne (Ne.symm he)]
        unfold possAt
        rw [hs]; exact h.sp k2 hk2

end Go.SX

namespace Go.SX
open Go.Proofs
set_option maxRecDepth 100000

theorem k18f (x3 x4 x5 : Int) (x6 : List TM) (x8 x9 x10 x11 x12 : List Int) (x13 : List BS3) (h : kg x3 x4 x6 x8 x9 x11 x13 = true) :
    ka3 x3 x5 = x5 ∧ ka1 x3 x8 = x8 ∧ kaa x3 x10 = x10 ∧ k9z x3 x11 = x11 ∧ ka8 x3 x12 = x12 ∧ kg x3 x4 x6 x8 x9 x11 x13 = true :=
  ⟨by simp only [ka3, Bool.cond_self], by simp only [ka1, Bool.cond_self], by simp only [kaa, Bool.cond_self], by simp only [k9z, Bool.cond_self], by simp only [ka8, Bool.cond_self], h⟩

def k6i : List SV → List Entry → Option Out
  | [.one ⟨false, [.ptr 0 0]⟩, .one ⟨true, [.val (.int .i64 _x0), .val (.int .i64 _x1), .val (.int .i64 _x2), .ref 1, .ref 2]⟩, .one ⟨true, [.val (.int .i64 x3), .val (.int .i64 x4)]⟩, .one ⟨false, [.ref 3]⟩, .one ⟨false, [.ref 4]⟩], [.box 77 [.val (.int .i64 x5), .ref 5, .ref 6, .ref 7, .ref 8], .row false 178 (.pair (.int .i64) (.pair .str (.int .i64))) x6, .row false 150 (.pair (.int .i64) (.int .i64)) x7, .row true 2 (.int .i64) x8, .row false 2 (.int .i64) x9, .row true 2 (.int .i64) x10, .row true 2 (.int .i64) x11, .row true 2 (.int .i64) x12, .row true 172 (.pair (.int .i64) (.pair (.int .i64) (.int .i64))) x13] => some ⟨(.one ⟨false, [(.val (.int IntKind.i64 (k1j x3 x4 x6 x8 x9 x11 x13)))]⟩), [(.box 77 [(.val (.int IntKind.i64 (x5))), (.ref 5), (.ref 6), (.ref 7), (.ref 8)]), (.row false 178 (CTy.pair (CTy.int IntKind.i64) (CTy.pair CTy.str (CTy.int IntKind.i64))) x6), (.row false 150 (CTy.pair (CTy.int IntKind.i64) (CTy.int IntKind.i64)) x7), (.row true 2 (CTy.int IntKind.i64) (x8)), (.row false 2 (CTy.int IntKind.i64) x9), (.row true 2 (CTy.int IntKind.i64) (x10)), (.row true 2 (CTy.int IntKind.i64) (x11)), (.row true 2 (CTy.int IntKind.i64) (x12)), (.row true 172 (CTy.pair (CTy.int IntKind.i64) (CTy.pair (CTy.int IntKind.i64) (CTy.int IntKind.i64))) (k3o x3 x4 x6 x8 x13))], [], [kg x3 x4 x6 x8 x9 x11 x13]⟩
  | _, _ => none

def km5 : PF Tryz.prog := PF.alt kmt k6i (by
  intro args es o h hnd; unfold k6i at h; split at h
  · rename_i _x0 _x1 _x2 x3 x4 x5 x6 x7 x8 x9 x10 x11 x12 x13
    cases h
    have hnd := nd_fst hnd
    have hh := k18f x3 x4 x5 x6 x8 x9 x10 x11 x12 x13 hnd
    obtain ⟨e1, e2, e3, e4, e5, en⟩ := hh
    exact altok rfl (nd_one en) rfl (by simp only [e1, e2, e3, e4, e5] <;> rfl) rfl
  · cases h)

def k_give : PF Tryz.prog := PF.kept km5 [0] (by
  intro args es o h
  have h : k6i args es = some o := h
  unfold k6i at h; split at h
  · cases h; exact List.forall_mem_cons.2 ⟨rfl, fun _ h => (by cases h)⟩
  · cases h)

end Go.SX

namespace Go.SX
open Go.Proofs
set_option maxRecDepth 100000

def ke (x3 : Int) (x5 : List (Int × Int)) : Int × Int :=
  Option.getD x5[Int.toNat x3]? ((0 : Int), (0 : Int))

def k1b (x3 : Int) (x5 : List (Int × Int)) : Bool :=
  k1t (Prod.fst (ke x3 x5)) == (1 : Int)

def k9r (x3 : Int) : Int :=
  IntKind.wrap IntKind.i64 (x3 + (1 : Int))

def kh (x3 : Int) (x4 : List (Int × ByteArray × Int)) (x5 : List (Int × Int)) (x7 : List Int) : Int :=
  IntKind.wrap IntKind.i64
  (kqq x7 -
    k1c (Prod.fst (ke x3 x5))
      (Prod.snd (ke x3 x5)) x4)

def kr (x3 : Int) (x4 : List (Int × ByteArray × Int)) (x5 : List (Int × Int)) (x6 : List Int) (x7 : List Int) (x8 : List Int) (x10 : List (Int × Int × Int)) : List Int :=
  [k1j (Prod.fst (ke x3 x5))
    (Prod.snd (ke x3 x5)) x4
    (List.drop (Int.toNat (kh x3 x4 x5 x7)) x7) x6 x8 x10]

def k3s (x3 : Int) (x5 : List (Int × Int)) : Int :=
  bif k1b x3 x5 then k9r x3
  else k9r x3

def k3q (x3 : Int) (x4 : List (Int × ByteArray × Int)) (x5 : List (Int × Int)) (x7 : List Int) (x8 : List Int) : List Int :=
  bif k1b x3 x5 then x8
  else
  k9q (Prod.fst (ke x3 x5))
    (Prod.snd (ke x3 x5))
    (List.drop (Int.toNat (kh x3 x4 x5 x7)) x7) x8

def k3m (x3 : Int) (x4 : List (Int × ByteArray × Int)) (x5 : List (Int × Int)) (x6 : List Int) (x7 : List Int) (x8 : List Int) (x9 : List Int) : List Int :=
  bif k1b x3 x5 then x9
  else
  k5o (Prod.fst (ke x3 x5))
    (Prod.snd (ke x3 x5))
    (List.drop (Int.toNat (kh x3 x4 x5 x7)) x7) x6 x8 x9

def k3k (x3 : Int) (x4 : List (Int × ByteArray × Int)) (x5 : List (Int × Int)) (x7 : List Int) (x10 : List (Int × Int × Int)) : List (Int × (Int × Int)) :=
  bif k1b x3 x5 then
  k3o (Prod.fst (ke x3 x5))
    (Prod.snd (ke x3 x5)) x4
    (List.drop (Int.toNat (kh x3 x4 x5 x7)) x7) x10
  else x10

def k3r (x3 : Int) (x4 : List (Int × ByteArray × Int)) (x5 : List (Int × Int)) (x6 : List Int) (x7 : List Int) (x8 : List Int) (x10 : List (Int × Int × Int)) : List Int :=
  bif k1b x3 x5 then
  List.take (Int.toNat (kh x3 x4 x5 x7)) x7 ++
    kr x3 x4 x5 x6 x7 x8 x10
  else List.take (Int.toNat (kh x3 x4 x5 x7)) x7

def ku (x3 : Int) (x4 : List (Int × ByteArray × Int)) (x5 : List (Int × Int)) (x6 : List Int) (x7 : List Int) (x8 : List Int) (x9 : List Int) (x10 : List (Int × Int × Int)) : Bool :=
  allT
  [leI (0 : Int) x3, ltI x3 (↑(List.length x5) : Int), ltN (Int.toNat x3) (List.length x5),
    k5f (Prod.fst (ke x3 x5))
      (Prod.snd (ke x3 x5)) x4,
    leI (0 : Int) (kh x3 x4 x5 x7),
    leI (kh x3 x4 x5 x7) (↑(List.length x7) : Int),
    leN (Int.toNat (kh x3 x4 x5 x7)) (List.length x7),
    leN (List.length (List.drop (Int.toNat (kh x3 x4 x5 x7)) x7)) (1048576 : Nat),
    leI (0 : Int) (kh x3 x4 x5 x7),
    leI (kh x3 x4 x5 x7) (↑(List.length x7) : Int),
    !k1b x3 x5 ||
      kg (Prod.fst (ke x3 x5))
        (Prod.snd (ke x3 x5)) x4
        (List.drop (Int.toNat (kh x3 x4 x5 x7)) x7) x6 x8 x10,
    !k1b x3 x5 ||
      leN
        (List.length (List.take (Int.toNat (kh x3 x4 x5 x7)) x7) +
          List.length (kr x3 x4 x5 x6 x7 x8 x10))
        (9223372036854775807 : Nat),
    !k1b x3 x5 ||
      leN
        ((List.length (List.take (Int.toNat (kh x3 x4 x5 x7)) x7) +
            List.length (kr x3 x4 x5 x6 x7 x8 x10)) *
          (8 : Nat))
        (140737488355328 : Nat),
    k1b x3 x5 ||
      k1g (Prod.fst (ke x3 x5))
        (Prod.snd (ke x3 x5))
        (List.drop (Int.toNat (kh x3 x4 x5 x7)) x7) x6 x8 x9]

def kew : List SV → List Entry → Option Out
  | [.one ⟨false, [.ptr 0 0]⟩, .one ⟨true, [.val (.int .i64 _x0), .val (.int .i64 _x1), .val (.int .i64 _x2), .ref 1, .ref 2]⟩, .one ⟨false, [.ref 3]⟩], [.box 77 [.val (.int .i64 x3), .ref 4, .ref 5, .ref 6, .ref 7], .row false 178 (.pair (.int .i64) (.pair .str (.int .i64))) x4, .row false 150 (.pair (.int .i64) (.int .i64)) x5, .row false 2 (.int .i64) x6, .row true 2 (.int .i64) x7, .row true 2 (.int .i64) x8, .row true 2 (.int .i64) x9, .row true 172 (.pair (.int .i64) (.pair (.int .i64) (.int .i64))) x10] => some ⟨(.tup []), [(.box 77 [(.val (.int IntKind.i64 (k3s x3 x5))), (.ref 8), (.ref 5), (.ref 6), (.ref 7)]), (.row false 178 (CTy.pair (CTy.int IntKind.i64) (CTy.pair CTy.str (CTy.int IntKind.i64))) x4), (.row false 150 (CTy.pair (CTy.int IntKind.i64) (CTy.int IntKind.i64)) x5), (.row false 2 (CTy.int IntKind.i64) x6), .gone, (.row true 2 (CTy.int IntKind.i64) (k3q x3 x4 x5 x7 x8)), (.row true 2 (CTy.int IntKind.i64) (k3m x3 x4 x5 x6 x7 x8 x9)), (.row true 172 (CTy.pair (CTy.int IntKind.i64) (CTy.pair (CTy.int IntKind.i64) (CTy.int IntKind.i64))) (k3k x3 x4 x5 x7 x10))], [(.row true 2 (CTy.int IntKind.i64) (k3r x3 x4 x5 x6 x7 x8 x10))], [(ku x3 x4 x5 x6 x7 x8 x9 x10)]⟩
  | _, _ => none

def ka9 : PF Tryz.prog := PF.ofG Tryz.prog [PF.views Tryz.prog, kak, PF.lend kak, PF.lend (PF.view kak), k2g, PF.lend k2g, kvg, PF.lend kvg, k_give, kls] [] hmix 126 Tryz.f126 Tryz.func126 (fun c _ => LOk.nil c) kew (by
  intro vs es r h; unfold kew at h; split at h
  · cases h; kernel_rfl
  · cases h)

end Go.SX

namespace Go.SX
open Go.Proofs
set_option maxRecDepth 100000

theorem k178 {a b : Int} (ha : a = 0 ∨ a = 1) (hb : b = 0 ∨ b = 1) : IntKind.i64.wrap ((BitVec.toNat (BitVec.ofInt (IntKind.bits IntKind.i64) a &&& BitVec.ofInt (IntKind.bits IntKind.i64) b) : Nat) : Int) = andI a b := by
  rcases ha with rfl | rfl <;> rcases hb with rfl | rfl <;> rfl
theorem k17s {a b : Int} (ha : a = 0 ∨ a = 1) (hb : b = 0 ∨ b = 1) : IntKind.i64.wrap ((BitVec.toNat (BitVec.ofInt (IntKind.bits IntKind.i64) a ||| BitVec.ofInt (IntKind.bits IntKind.i64) b) : Nat) : Int) = orI a b := by
  rcases ha with rfl | rfl <;> rcases hb with rfl | rfl <;> rfl
theorem k17y {a : Int} (ha : a = 0 ∨ a = 1) : IntKind.i64.wrap (1 - a) = 1 - a := by rcases ha with rfl | rfl <;> rfl

theorem k17t {bs : List TM} {x : IN} {stk : List Int} (h : bitsB (tkI bs x) (argI bs x stk) = true) : ((argI bs x stk).length : Int) = tkI bs x := (kel.1 h).2

/-- What an instruction takes and gives. -/
theorem tk_of {bs : List TM} {x : IN} : (x.1 = 4 → tkI bs x = 1) ∧ (x.1 = 5 → tkI bs x = 2) ∧ (x.1 = 6 → tkI bs x = 2) ∧ (x.1 = 8 → tkI bs x = 1) ∧ (x.1 = 9 → tkI bs x = 1) ∧ (x.1 = 7 → tkI bs x = takesK (termAt bs x.2.toNat).1) := by
  refine ⟨fun h => ?_, fun h => ?_, fun h => ?_, fun h => ?_, fun h => ?_, fun h => ?_⟩ <;> simp [tkI, k4l, kab, ka2, kec, h, takesK, termAt]

theorem gv_of {x : IN} : ((x.1 = 1 ∨ x.1 = 2 ∨ x.1 = 3 ∨ x.1 = 4 ∨ x.1 = 5 ∨ x.1 = 6 ∨ x.1 = 7) → gvI x = 1) ∧ ((x.1 = 8 ∨ x.1 = 9 ∨ x.1 = 10 ∨ x.1 = 11) → gvI x = 0) := by
  refine ⟨fun h => ?_, fun h => ?_⟩
  · rcases h with h | h | h | h | h | h | h <;> simp [gvI, k7x, kab, ka2, kec, h]
  · rcases h with h | h | h | h <;> simp [gvI, k7x, kab, ka2, kec, h]

/-- The reference's step. -/
theorem specStep {i v o : Int} {bs : List TM} {st : List IN} {inp : List Int} {k : Int} {stk xs os : List Int} {ss : List BS3} (hC : codeB i v o bs st = true) (hin : bitsB i inp = true)
    (h : OkM i v o bs st k stk xs os ss) (hlt : k < st.length) {x : IN} (hx : st[k.toNat]? = some x) :
    kog k st = k + 1 ∧ koq k bs st stk xs ss inp = stkM bs inp x stk xs ss ∧ kr1 k bs st stk xs = vlsM bs x stk xs ∧
    kr7 k bs st stk xs os inp = outM bs inp x stk xs os ∧ kr6 k bs st stk ss = blkM bs x stk ss ∧ k9x k bs st stk xs os ss inp = true := by
  obtain ⟨g1, g2, g3, g4, g5, _⟩ := k175 hC hin h hlt hx
  simp only [codeB, Bool.and_eq_true] at hC
  obtain ⟨hr, hB, hok⟩ := hC
  obtain ⟨ri, rv, ro, rb, rs⟩ := kyf.1 hr
  have h0 := h.lo
  have t2 := tkI_in bs x
  have hxl := (kel.1 h.vl).2
  have hol := (kel.1 h.ou).2
  have hil := (kel.1 hin).2
  have hsl := h.sl
  have hargb := (kel.1 g3).1
  have hal := k17t g3
  have ha0 := k13k hargb 0
  have ha1 := k13k hargb 1
  have e0 : k17 k st = x := by simp only [k17, hx, Option.getD_some]
  have w3 : IntKind.i64.wrap (k + 1) = k + 1 := wrap_i64 (by omega) (by omega)
  have e14 : kge k bs st stk = stk.length - tkI bs x := by
    simp only [kge, e0]
    exact wrap_i64 (by have : k4l x.1 x.2 bs = tkI bs x := rfl; omega) (by have : k4l x.1 x.2 bs = tkI bs x := rfl; omega)
  have en : (((stk.length : Int) - tkI bs x)).toNat = stk.length - (tkI bs x).toNat := by omega
  have e15 : k1i k bs st stk = rstI bs x stk := by simp only [k1i, e14, en, rstI]; rfl
  have e18 : k6n k bs st stk = argI bs x stk := by simp only [k6n, e14, en, argI, Int.toNat_natCast, List.take_length]
  have e19 : khx k bs st stk = atZ (argI bs x stk) 0 := by simp only [khx, e18, atZ]
  have e20 : ∀ d : Int, Option.getD (argI bs x stk)[Int.toNat (1 : Int)]? d = Option.getD (argI bs x stk)[Int.toNat (1 : Int)]? d := fun _ => rfl
  have hl1 : leN (rstI bs x stk).length 1048576 = true := leN_t (by have := k158 g2; omega)
  have hl2 : leN (argI bs x stk).length 1048576 = true := leN_t (by omega)
  have hl3 : leN xs.length 1048576 = true := leN_t (by omega)
  have hl4 : leN os.length 1048576 = true := leN_t (by omega)
  have hl5 : leN (0 + ss.length) 9223372036854775807 = true := leN_t (by omega)
  have hl6 : leN ((0 + ss.length) * 24) 140737488355328 = true := leN_t (by omega)
  have hl7 : leN ((rstI bs x stk).length + 1) 9223372036854775807 = true := leN_t (by have := k158 g2; omega)
  have hl8 : leN (((rstI bs x stk).length + 1) * 8) 140737488355328 = true := leN_t (by have := k158 g2; omega)
  have n1 : leI 0 k = true := leI_t h0
  have n2 : ltI k (st.length : Int) = true := ltI_t hlt
  have n3 : ltN k.toNat st.length = true := ltN_t (by omega)
  have n4 : kh9 x.1 x.2 bs = true := fit_nd rb g1
  have n5 : leI 0 ((stk.length : Int) - tkI bs x) = true := leI_t (by omega)
  have n6 : leI ((stk.length : Int) - tkI bs x) (stk.length : Int) = true := leI_t (by omega)
  have n7 : ∀ n : Nat, leI (n : Int) (n : Int) = true := fun n => leI_t (by omega)
  have key : ∀ c : Int, x.1 = c → ka k st = (c == 1) ∧ kb k st = (c == 2) ∧ kf k st = (c == 3) ∧ kj k st = (c == 4) ∧ ko k st = (c == 5) ∧ kx k st = (c == 6) ∧
      k19 k st = (c == 7) ∧ k1d k st = (c == 8) ∧ k1x k st = (c == 9) ∧ k37 k st = (c == 10) ∧ k6k k st = (c == 11) ∧ kd k st = (gvI x == 1) := by
    intro c hc
    have h2 : k7x c = gvI x := by rw [← hc]; rfl
    refine ⟨?_, ?_, ?_, ?_, ?_, ?_, ?_, ?_, ?_, ?_, ?_, ?_⟩ <;> simp only [ka, kd, kb, kf, kj, ko, kx, k19, k1d, k1x, k37, k6k, e0, hc, h2]
  obtain ⟨tk4, tk5, tk6, tk8, tk9, tk7⟩ := tk_of (bs := bs) (x := x)
  obtain ⟨gv1, gv0⟩ := gv_of (x := x)
  have hB7 : x.1 = 7 → 0 ≤ x.2 ∧ x.2 < bs.length → blockB (termAt bs x.2.toNat).1 (termAt bs x.2.toNat).2.1 (termAt bs x.2.toNat).2.2 = true := fun _ hq => by
    have hlt7 : x.2.toNat < bs.length := by omega
    have hg7 : termAt bs x.2.toNat = bs[x.2.toNat] := by simp only [termAt, List.getElem?_eq_getElem hlt7]; rfl
    rw [hg7]; exact List.all_eq_true.1 hB _ (List.getElem_mem hlt7)
  have hs0 : kog k st = k + 1 := by simp only [kog, k2s, w3, Bool.cond_self]
  have hmask : ∀ (l : List Int) (z : Int), klo z l = mskM l z := fun l z => by simp only [klo, mskM, Int.toNat_natCast]
  have hcs := k149 ri rv ro rb g1
  have a16 : kgc k st inp = atZ inp x.2 := by simp only [kgc, e0, atZ]
  have a17 : kgj k st xs = atZ xs x.2 := by simp only [kgj, e0, atZ]
  have a23 : keb k bs st = termAt bs x.2.toNat := by simp only [keb, e0, termAt]
  have a24 : ka6 k st ss = stAt ss x.2.toNat := by simp only [ka6, e0, stAt]
  have a27 : kqu k bs st stk xs = xs.set x.2.toNat (atZ (argI bs x stk) 0) := by simp only [kqu, e0, e19]
  have a28 : kr5 k bs st stk os = os.set x.2.toNat (atZ (argI bs x stk) 0) := by simp only [kr5, e0, e19]
  have a20 : k5k k bs st stk = [1 - atZ (argI bs x stk) 0] := by simp only [k5k, e19, k17y ha0]
  have a21 : k5l k bs st stk = [andI (atZ (argI bs x stk) 0) (atZ (argI bs x stk) 1)] := by
    simp only [k5l, e19, e18]
    exact congrArg (fun z => [z]) (k178 ha0 ha1)
  have a22 : k5j k bs st stk = [orI (atZ (argI bs x stk) 0) (atZ (argI bs x stk) 1)] := by
    simp only [k5j, e19, e18]
    exact congrArg (fun z => [z]) (k17s ha0 ha1)
  have a25 : k5n k bs st stk ss = [valB (termAt bs x.2.toNat).1 (termAt bs x.2.toNat).2.2 (argI bs x stk) (stAt ss x.2.toNat)] := by simp only [k5n, a23, a24, e18, valB]
  have a29 : kqr k bs st stk ss = ss.set x.2.toNat (nextB (termAt bs x.2.toNat).1 (termAt bs x.2.toNat).2.2 (argI bs x stk) (stAt ss x.2.toNat)) := by simp only [kqr, a23, a24, e18, e0, nextB]
  refine ⟨hs0, ?_, ?_, ?_, ?_, ?_⟩
  · rcases hcs with ⟨e, q⟩ | ⟨e, q⟩ | ⟨e, q⟩ | e | e | e | ⟨e, q⟩ | ⟨e, q⟩ | ⟨e, q⟩ | ⟨e, q⟩ | ⟨e, q⟩ <;> (
      obtain ⟨k1, k4, k5, k6, k7, k8, k9, k10, k11, k12, k13, k2⟩ := key _ e
      first
      | (have gv : gvI x = 1 := gv1 (by omega)
         simp [koq, kii, stkM, valM, k1, k2, k4, k5, k6, k7, k8, k9, k10, k11, k12, k13, e0, e15, a16, a17, a20, a21, a22, a25, e, gv])
      | (have gv : gvI x = 0 := gv0 (by omega)
         simp [koq, kii, stkM, valM, k1, k2, k4, k5, k6, k7, k8, k9, k10, k11, k12, k13, e0, e15, a16, a17, a20, a21, a22, a25, e, gv]))
  · rcases hcs with ⟨e, q⟩ | ⟨e, q⟩ | ⟨e, q⟩ | e | e | e | ⟨e, q⟩ | ⟨e, q⟩ | ⟨e, q⟩ | ⟨e, q⟩ | ⟨e, q⟩ <;> (
      obtain ⟨k1, k4, k5, k6, k7, k8, k9, k10, k11, k12, k13, k2⟩ := key _ e
      simp [kr1, vlsM, Bool.cond_self, k1, k4, k5, k6, k7, k8, k9, k10, k11, k12, k13, a27, e])
  · rcases hcs with ⟨e, q⟩ | ⟨e, q⟩ | ⟨e, q⟩ | e | e | e | ⟨e, q⟩ | ⟨e, q⟩ | ⟨e, q⟩ | ⟨e, q⟩ | ⟨e, q⟩ <;> (
      obtain ⟨k1, k4, k5, k6, k7, k8, k9, k10, k11, k12, k13, k2⟩ := key _ e
      simp [kr7, outM, Bool.cond_self, k1, k4, k5, k6, k7, k8, k9, k10, k11, k12, k13, a28, a16, a17, hmask, e])
  · rcases hcs with ⟨e, q⟩ | ⟨e, q⟩ | ⟨e, q⟩ | e | e | e | ⟨e, q⟩ | ⟨e, q⟩ | ⟨e, q⟩ | ⟨e, q⟩ | ⟨e, q⟩ <;> (
      obtain ⟨k1, k4, k5, k6, k7, k8, k9, k10, k11, k12, k13, k2⟩ := key _ e
      simp [kr6, blkM, Bool.cond_self, k1, k4, k5, k6, k7, k8, k9, k10, k11, k12, k13, a29, e])
  · rcases hcs with ⟨e, q⟩ | ⟨e, q⟩ | ⟨e, q⟩ | e | e | e | ⟨e, q⟩ | ⟨e, q⟩ | ⟨e, q⟩ | ⟨e, q⟩ | ⟨e, q⟩
    · obtain ⟨k1, k4, k5, k6, k7, k8, k9, k10, k11, k12, k13, k2⟩ := key _ e
      have z0 : leI (0 : Int) 0 = true := rfl
      have z1 : leI (0 : Int) 1 = true := rfl
      simp [k9x, allT, k1, k2, k4, k5, k6, k7, k8, k9, k10, k11, k12, k13, e0, e14, e15, e18, n1, n2, n3, n4, n5, n6, n7, hl1, hl2, hl3, hl4, hl5, hl6, hl7, hl8, k5k, k5l, k5j, k5n, k8p, k7c, k5g, k5h, k8i, k8n, k7k, k8t, k8g, k5i, k5m, List.length_singleton, z0, z1] <;> omega
    · obtain ⟨k1, k4, k5, k6, k7, k8, k9, k10, k11, k12, k13, k2⟩ := key _ e
      have z0 : leI (0 : Int) 0 = true := rfl
      have z1 : leI (0 : Int) 1 = true := rfl
      have r1 : leI 0 x.2 = true := leI_t (by omega)
      have r2 : ltI x.2 (inp.length : Int) = true := ltI_t (by omega)
      have r3 : ltN x.2.toNat inp.length = true := ltN_t (by omega)
      simp [k9x, allT, k1, k2, k4, k5, k6, k7, k8, k9, k10, k11, k12, k13, e0, e14, e15, e18, n1, n2, n3, n4, n5, n6, n7, hl1, hl2, hl3, hl4, hl5, hl6, hl7, hl8, k5k, k5l, k5j, k5n, k8p, k7c, k5g, k5h, k8i, k8n, k7k, k8t, k8g, k5i, k5m, List.length_singleton, z0, z1, r1, r2, r3] <;> omega
    · obtain ⟨k1, k4, k5, k6, k7, k8, k9, k10, k11, k12, k13, k2⟩ := key _ e
      have z0 : leI (0 : Int) 0 = true := rfl
      have z1 : leI (0 : Int) 1 = true := rfl
      have r1 : leI 0 x.2 = true := leI_t (by omega)
      have r2 : ltI x.2 (xs.length : Int) = true := ltI_t (by omega)
      have r3 : ltN x.2.toNat xs.length = true := ltN_t (by omega)
      simp [k9x, allT, k1, k2, k4, k5, k6, k7, k8, k9, k10, k11, k12, k13, e0, e14, e15, e18, n1, n2, n3, n4, n5, n6, n7, hl1, hl2, hl3, hl4, hl5, hl6, hl7, hl8, k5k, k5l, k5j, k5n, k8p, k7c, k5g, k5h, k8i, k8n, k7k, k8t, k8g, k5i, k5m, List.length_singleton, z0, z1, r1, r2, r3] <;> omega
    · obtain ⟨k1, k4, k5, k6, k7, k8, k9, k10, k11, k12, k13, k2⟩ := key _ e
      have z0 : leI (0 : Int) 0 = true := rfl
      have z1 : leI (0 : Int) 1 = true := rfl
      have tk := tk4 e
      have s1 : ltI 0 ((argI bs x stk).length : Int) = true := ltI_t (by omega)
      have s2 : ltN (Int.toNat 0) (argI bs x stk).length = true := ltN_t (by simp only [Int.toNat_zero]; omega)
      simp [k9x, allT, k1, k2, k4, k5, k6, k7, k8, k9, k10, k11, k12, k13, e0, e14, e15, e18, n1, n2, n3, n4, n5, n6, n7, hl1, hl2, hl3, hl4, hl5, hl6, hl7, hl8, k5k, k5l, k5j, k5n, k8p, k7c, k5g, k5h, k8i, k8n, k7k, k8t, k8g, k5i, k5m, List.length_singleton, z0, z1, s1, s2] <;> omega
    · obtain ⟨k1, k4, k5, k6, k7, k8, k9, k10, k11, k12, k13, k2⟩ := key _ e
      have z0 : leI (0 : Int) 0 = true := rfl
      have z1 : leI (0 : Int) 1 = true := rfl
      have tk := tk5 e
      have s1 : ltI 0 ((argI bs x stk).length : Int) = true := ltI_t (by omega)
      have s2 : ltN (Int.toNat 0) (argI bs x stk).length = true := ltN_t (by simp only [Int.toNat_zero]; omega)
      have s3 : ltI 1 ((argI bs x stk).length : Int) = true := ltI_t (by omega)
      have s4 : ltN (Int.toNat 1) (argI bs x stk).length = true := ltN_t (by rw [show Int.toNat 1 = 1 from rfl]; omega)
      simp [k9x, allT, k1, k2, k4, k5, k6, k7, k8, k9, k10, k11, k12, k13, e0, e14, e15, e18, n1, n2, n3, n4, n5, n6, n7, hl1, hl2, hl3, hl4, hl5, hl6, hl7, hl8, k5k, k5l, k5j, k5n, k8p, k7c, k5g, k5h, k8i, k8n, k7k, k8t, k8g, k5i, k5m, List.length_singleton, z0, z1, s1, s2, s3, s4] <;> omega
    · obtain ⟨k1, k4, k5, k6, k7, k8, k9, k10, k11, k12, k13, k2⟩ := key _ e
      have z0 : leI (0 : Int) 0 = true := rfl
      have z1 : leI (0 : Int) 1 = true := rfl
      have tk := tk6 e
      have s1 : ltI 0 ((argI bs x stk).length : Int) = true := ltI_t (by omega)
      have s2 : ltN (Int.toNat 0) (argI bs x stk).length = true := ltN_t (by simp only [Int.toNat_zero]; omega)
      have s3 : ltI 1 ((argI bs x stk).length : Int) = true := ltI_t (by omega)
      have s4 : ltN (Int.toNat 1) (argI bs x stk).length = true := ltN_t (by rw [show Int.toNat 1 = 1 from rfl]; omega)
      simp [k9x, allT, k1, k2, k4, k5, k6, k7, k8, k9, k10, k11, k12, k13, e0, e14, e15, e18, n1, n2, n3, n4, n5, n6, n7, hl1, hl2, hl3, hl4, hl5, hl6, hl7, hl8, k5k, k5l, k5j, k5n, k8p, k7c, k5g, k5h, k8i, k8n, k7k, k8t, k8g, k5i, k5m, List.length_singleton, z0, z1, s1, s2, s3, s4] <;> omega
    · obtain ⟨k1, k4, k5, k6, k7, k8, k9, k10, k11, k12, k13, k2⟩ := key _ e
      have z0 : leI (0 : Int) 0 = true := rfl
      have z1 : leI (0 : Int) 1 = true := rfl
      have r1 : leI 0 x.2 = true := leI_t (by omega)
      have r2 : ltI x.2 (bs.length : Int) = true := ltI_t (by omega)
      have r3 : ltN x.2.toNat bs.length = true := ltN_t (by omega)
      have r4 : ltI x.2 (ss.length : Int) = true := ltI_t (by omega)
      have r5 : ltN x.2.toNat ss.length = true := ltN_t (by omega)
      have r6 := (k171 (hB7 e q) (h.sp x.2.toNat (by omega)) (by rw [← tk7 e]; exact g3)).2.2.2.2.2.1
      simp [k9x, allT, k1, k2, k4, k5, k6, k7, k8, k9, k10, k11, k12, k13, e0, e14, e15, e18, n1, n2, n3, n4, n5, n6, n7, hl1, hl2, hl3, hl4, hl5, hl6, hl7, hl8, k5k, k5l, k5j, k5n, k8p, k7c, k5g, k5h, k8i, k8n, k7k, k8t, k8g, k5i, k5m, List.length_singleton, z0, z1, r1, r2, r3, r4, r5, r6] <;> omega
    · obtain ⟨k1, k4, k5, k6, k7, k8, k9, k10, k11, k12, k13, k2⟩ := key _ e
      have z0 : leI (0 : Int) 0 = true := rfl
      have z1 : leI (0 : Int) 1 = true := rfl
      have tk := tk8 e
      have s1 : ltI 0 ((argI bs x stk).length : Int) = true := ltI_t (by omega)
      have s2 : ltN (Int.toNat 0) (argI bs x stk).length = true := ltN_t (by simp only [Int.toNat_zero]; omega)
      have r1 : leI 0 x.2 = true := leI_t (by omega)
      have r2 : ltI x.2 (xs.length : Int) = true := ltI_t (by omega)
      have r3 : ltN x.2.toNat xs.length = true := ltN_t (by omega)
      simp [k9x, allT, k1, k2, k4, k5, k6, k7, k8, k9, k10, k11, k12, k13, e0, e14, e15, e18, n1, n2, n3, n4, n5, n6, n7, hl1, hl2, hl3, hl4, hl5, hl6, hl7, hl8, k5k, k5l, k5j, k5n, k8p, k7c, k5g, k5h, k8i, k8n, k7k, k8t, k8g, k5i, k5m, List.length_singleton, z0, z1, s1, s2, r1, r2, r3] <;> omega
    · obtain ⟨k1, k4, k5, k6, k7, k8, k9, k10, k11, k12, k13, k2⟩ := key _ e
      have z0 : leI (0 : Int) 0 = true := rfl
      have z1 : leI (0 : Int) 1 = true := rfl
      have tk := tk9 e
      have s1 : ltI 0 ((argI bs x stk).length : Int) = true := ltI_t (by omega)
      have s2 : ltN (Int.toNat 0) (argI bs x stk).length = true := ltN_t (by simp only [Int.toNat_zero]; omega)
      have r1 : leI 0 x.2 = true := leI_t (by omega)
      have r2 : ltI x.2 (os.length : Int) = true := ltI_t (by omega)
      have r3 : ltN x.2.toNat os.length = true := ltN_t (by omega)
      simp [k9x, allT, k1, k2, k4, k5, k6, k7, k8, k9, k10, k11, k12, k13, e0, e14, e15, e18, n1, n2, n3, n4, n5, n6, n7, hl1, hl2, hl3, hl4, hl5, hl6, hl7, hl8, k5k, k5l, k5j, k5n, k8p, k7c, k5g, k5h, k8i, k8n, k7k, k8t, k8g, k5i, k5m, List.length_singleton, z0, z1, s1, s2, r1, r2, r3] <;> omega
    · obtain ⟨k1, k4, k5, k6, k7, k8, k9, k10, k11, k12, k13, k2⟩ := key _ e
      have z0 : leI (0 : Int) 0 = true := rfl
      have z1 : leI (0 : Int) 1 = true := rfl
      have m1 : ∀ z : Int, klf z os = true := fun z => by
        have q1 : leI (0 : Int) (os.length : Int) = true := leI_t (by omega)
        have q2 : leI (((8 : Nat) : Int) * (os.length : Int)) 281474976710656 = true := leI_t (by omega)
        have q3 : leI (os.length : Int) 9223372036854775807 = true := leI_t (by omega)
        simp only [klf, q1, q2, q3, n7, allT, Bool.or_true, cond_true]
      have r1 : leI 0 x.2 = true := leI_t (by omega)
      have r2 : ltI x.2 (inp.length : Int) = true := ltI_t (by omega)
      have r3 : ltN x.2.toNat inp.length = true := ltN_t (by omega)
      simp [k9x, allT, k1, k2, k4, k5, k6, k7, k8, k9, k10, k11, k12, k13, e0, e14, e15, e18, n1, n2, n3, n4, n5, n6, n7, hl1, hl2, hl3, hl4, hl5, hl6, hl7, hl8, k5k, k5l, k5j, k5n, k8p, k7c, k5g, k5h, k8i, k8n, k7k, k8t, k8g, k5i, k5m, List.length_singleton, z0, z1, m1, r1, r2, r3] <;> omega
    · obtain ⟨k1, k4, k5, k6, k7, k8, k9, k10, k11, k12, k13, k2⟩ := key _ e
      have z0 : leI (0 : Int) 0 = true := rfl
      have z1 : leI (0 : Int) 1 = true := rfl
      have m1 : ∀ z : Int, klf z os = true := fun z => by
        have q1 : leI (0 : Int) (os.length : Int) = true := leI_t (by omega)
        have q2 : leI (((8 : Nat) : Int) * (os.length : Int)) 281474976710656 = true := leI_t (by omega)
        have q3 : leI (os.length : Int) 9223372036854775807 = true := leI_t (by omega)
        simp only [klf, q1, q2, q3, n7, allT, Bool.or_true, cond_true]
      have r1 : leI 0 x.2 = true := leI_t (by omega)
      have r2 : ltI x.2 (xs.length : Int) = true := ltI_t (by omega)
      have r3 : ltN x.2.toNat xs.length = true := ltN_t (by omega)
      simp [k9x, allT, k1, k2, k4, k5, k6, k7, k8, k9, k10, k11, k12, k13, e0, e14, e15, e18, n1, n2, n3, n4, n5, n6, n7, hl1, hl2, hl3, hl4, hl5, hl6, hl7, hl8, k5k, k5l, k5j, k5n, k8p, k7c, k5g, k5h, k8i, k8n, k7k, k8t, k8g, k5i, k5m, List.length_singleton, z0, z1, m1, r1, r2, r3] <;> omega

/-- The program's step. -/
theorem implStep {i v o : Int} {bs : List TM} {st : List IN} {inp : List Int} {k : Int} {stk xs os : List Int} {ss : List BS3} (hC : codeB i v o bs st = true) (hin : bitsB i inp = true)
    (h : OkM i v o bs st k stk xs os ss) (hlt : k < st.length) {x : IN} (hx : st[k.toNat]? = some x) :
    k3s k st = k + 1 ∧ k3r k bs st inp stk xs ss = stkM bs inp x stk xs ss ∧ k3q k bs st stk xs = vlsM bs x stk xs ∧
    k3m k bs st inp stk xs os = outM bs inp x stk xs os ∧ k3k k bs st stk ss = blkM bs x stk ss ∧ ku k bs st inp stk xs os ss = true := by
  obtain ⟨g1, g2, g3, g4, g5, _⟩ := k175 hC hin h hlt hx
  simp only [codeB, Bool.and_eq_true] at hC
  obtain ⟨hr, hB, hok⟩ := hC
  obtain ⟨ri, rv, ro, rb, rs⟩ := kyf.1 hr
  have h0 := h.lo
  have t2 := tkI_in bs x
  have hxl := (kel.1 h.vl).2
  have hol := (kel.1 h.ou).2
  have hil := (kel.1 hin).2
  have hsl := h.sl
  have hargb := (kel.1 g3).1
  have hal := k17t g3
  have ha0 := k13k hargb 0
  have ha1 := k13k hargb 1
  have e0 : ke k st = x := by simp only [ke, hx, Option.getD_some]
  have w3 : k9r k = k + 1 := wrap_i64 (by omega) (by omega)
  have e14 : kh k bs st stk = stk.length - tkI bs x := by
    simp only [kh, e0]
    have q : k1c x.1 x.2 bs = tkI bs x := rfl
    have q2 : kqq stk = (stk.length : Int) := rfl
    rw [q, q2]
    exact wrap_i64 (by omega) (by omega)
  have en : (((stk.length : Int) - tkI bs x)).toNat = stk.length - (tkI bs x).toNat := by omega
  have e1 : k1b k st = (gvI x == 1) := by
    simp only [k1b, e0]
    rfl
  have ear : stk.drop (stk.length - (tkI bs x).toNat) = argI bs x stk := rfl
  have ers : stk.take (stk.length - (tkI bs x).toNat) = rstI bs x stk := rfl
  have hz : ∀ (l : List Int) (z : Int), (bif z == 0 then zeros l.length else l) = mskM l z := fun l z => rfl
  have hcs := k149 ri rv ro rb g1
  have hB7 : x.1 = 7 → 0 ≤ x.2 ∧ x.2 < bs.length → blockB (termAt bs x.2.toNat).1 (termAt bs x.2.toNat).2.1 (termAt bs x.2.toNat).2.2 = true := fun _ hq => by
    have hlt7 : x.2.toNat < bs.length := by omega
    have hg7 : termAt bs x.2.toNat = bs[x.2.toNat] := by simp only [termAt, List.getElem?_eq_getElem hlt7]; rfl
    rw [hg7]; exact List.all_eq_true.1 hB _ (List.getElem_mem hlt7)
  obtain ⟨tk4, tk5, tk6, tk8, tk9, tk7⟩ := tk_of (bs := bs) (x := x)
  obtain ⟨gv1, gv0⟩ := gv_of (x := x)
  have h7 : x.1 = 7 → 0 ≤ x.2 ∧ x.2 < bs.length → _ := fun e q => k171 (hB7 e q) (h.sp x.2.toNat (by omega)) (by rw [← tk7 e]; exact g3)
  have hga0 : k5t (argI bs x stk) = atZ (argI bs x stk) 0 := rfl
  have hga1 : k1y x.2 bs = termAt bs x.2.toNat := rfl
  have hga2 : k18 x.2 ss = stAt ss x.2.toNat := rfl
  have hsa0 : k9b (argI bs x stk) = atZ (argI bs x stk) 0 := rfl
  have hat : ∀ (l : List Int) (z : Int), Option.getD l[Int.toNat z]? (0 : Int) = atZ l z := fun _ _ => rfl
  have hat1 : ∀ (l : List Int), Option.getD l[1]? (0 : Int) = atZ l 1 := fun _ => rfl
  have hand := k178 ha0 ha1
  have hor := k17s ha0 ha1
  have hnot := k17y ha0
  refine ⟨?_, ?_, ?_, ?_, ?_, ?_⟩
  · simp only [k3s, w3, Bool.cond_self]
  · simp only [k3r, kr, e0, e1, e14, en, ear, ers, stkM]
    rcases hcs with ⟨e, q⟩ | ⟨e, q⟩ | ⟨e, q⟩ | e | e | e | ⟨e, q⟩ | ⟨e, q⟩ | ⟨e, q⟩ | ⟨e, q⟩ | ⟨e, q⟩
    · simp [k1j, valM, e, gv1 (by omega)]
    · simp [k1j, valM, e, gv1 (by omega), hat]
    · simp [k1j, valM, e, gv1 (by omega), hat]
    · simp only [k1j, valM, e, hga0, hnot]; rfl
    · simp only [k1j, valM, e, hga0, hat, hand]; rfl
    · simp only [k1j, valM, e, hga0, hat, hor]; rfl
    · have := (h7 e q).1
      simp only [k1j, valM, e, hga1, hga2]
      simp [this, valB]
    all_goals simp [gv0 (by omega)]
  · simp only [k3q, e0, e1, e14, en, ear, vlsM]
    rcases hcs with ⟨e, q⟩ | ⟨e, q⟩ | ⟨e, q⟩ | e | e | e | ⟨e, q⟩ | ⟨e, q⟩ | ⟨e, q⟩ | ⟨e, q⟩ | ⟨e, q⟩
    all_goals first
      | simp [gv1 (by omega), e]
      | simp [gv0 (by omega), e, k9q, hsa0]
  · simp only [k3m, e0, e1, e14, en, ear, outM]
    rcases hcs with ⟨e, q⟩ | ⟨e, q⟩ | ⟨e, q⟩ | e | e | e | ⟨e, q⟩ | ⟨e, q⟩ | ⟨e, q⟩ | ⟨e, q⟩ | ⟨e, q⟩
    all_goals first
      | (simp [gv1 (by omega), e]; done)
      | (simp [gv0 (by omega), e, k5o, hsa0, hat]; done)
      | (simp [gv0 (by omega), e, k5o, hsa0, hat]; exact hz _ _)
  · simp only [k3k, e0, e1, e14, en, ear, blkM]
    rcases hcs with ⟨e, q⟩ | ⟨e, q⟩ | ⟨e, q⟩ | e | e | e | ⟨e, q⟩ | ⟨e, q⟩ | ⟨e, q⟩ | ⟨e, q⟩ | ⟨e, q⟩
    all_goals first
      | (have z := h7 e q
         simp only [k3o, e, hga1, hga2, z.2.1, z.2.2.1, z.2.2.2.1, gv1 (by omega)]
         simp [nextB]
         done)
      | simp [gv1 (by omega), e, k3o]
      | simp [gv0 (by omega), e]
  · have n1 : leI 0 k = true := leI_t h0
    have n2 : ltI k (st.length : Int) = true := ltI_t hlt
    have n3 : ltN k.toNat st.length = true := ltN_t (by omega)
    have n4 : k5f x.1 x.2 bs = true := fit_nd rb g1
    have n5 : leI 0 ((stk.length : Int) - tkI bs x) = true := leI_t (by omega)
    have n6 : leI ((stk.length : Int) - tkI bs x) (stk.length : Int) = true := leI_t (by omega)
    have n7 : leN (stk.length - (tkI bs x).toNat) stk.length = true := leN_t (Nat.sub_le _ _)
    have n8 : leN (argI bs x stk).length 1048576 = true := leN_t (by omega)
    have n9 : leN ((rstI bs x stk).length + 1) 9223372036854775807 = true := leN_t (by have := k158 g2; omega)
    have n10 : leN (((rstI bs x stk).length + 1) * 8) 140737488355328 = true := leN_t (by have := k158 g2; omega)
    have z0 : leI (0 : Int) 0 = true := rfl
    have z1 : leI (0 : Int) 1 = true := rfl
    rcases hcs with ⟨e, q⟩ | ⟨e, q⟩ | ⟨e, q⟩ | e | e | e | ⟨e, q⟩ | ⟨e, q⟩ | ⟨e, q⟩ | ⟨e, q⟩ | ⟨e, q⟩
    · have gv := gv1 (by omega)
      have hd : kg x.1 x.2 bs (argI bs x stk) inp xs ss = true := by simp [kg, k1f, k1m, k1n, allT, e, z0, z1] <;> omega
      simp only [ku, kr, e0, e1, e14, en, ear, ers, gv, hd, n1, n2, n3, n4, n5, n6, n7, n8, n9, n10, List.length_singleton, allT, beq_self_eq_true, Bool.not_true, Bool.false_or, Bool.true_or, Bool.or_true, cond_true, show ((0 : Int) == 1) = false from rfl, Bool.not_false]
    · have gv := gv1 (by omega)
      have r1 : leI 0 x.2 = true := leI_t (by omega)
      have r2 : ltI x.2 (inp.length : Int) = true := ltI_t (by omega)
      have r3 : ltN x.2.toNat inp.length = true := ltN_t (by omega)
      have hd : kg x.1 x.2 bs (argI bs x stk) inp xs ss = true := by simp [kg, k1f, k1m, k1n, allT, e, z0, z1, r1, r2, r3] <;> omega
      simp only [ku, kr, e0, e1, e14, en, ear, ers, gv, hd, n1, n2, n3, n4, n5, n6, n7, n8, n9, n10, List.length_singleton, allT, beq_self_eq_true, Bool.not_true, Bool.false_or, Bool.true_or, Bool.or_true, cond_true, show ((0 : Int) == 1) = false from rfl, Bool.not_false]
    · have gv := gv1 (by omega)
      have r1 : leI 0 x.2 = true := leI_t (by omega)
      have r2 : ltI x.2 (xs.length : Int) = true := ltI_t (by omega)
      have r3 : ltN x.2.toNat xs.length = true := ltN_t (by omega)
      have hd : kg x.1 x.2 bs (argI bs x stk) inp xs ss = true := by simp [kg, k1f, k1m, k1n, allT, e, z0, z1, r1, r2, r3] <;> omega
      simp only [ku, kr, e0, e1, e14, en, ear, ers, gv, hd, n1, n2, n3, n4, n5, n6, n7, n8, n9, n10, List.length_singleton, allT, beq_self_eq_true, Bool.not_true, Bool.false_or, Bool.true_or, Bool.or_true, cond_true, show ((0 : Int) == 1) = false from rfl, Bool.not_false]
    · have gv := gv1 (by omega)
      have tk := tk4 e
      have s1 : ltI 0 ((argI bs x stk).length : Int) = true := ltI_t (by omega)
      have s2 : ltN (Int.toNat 0) (argI bs x stk).length = true := ltN_t (by simp only [Int.toNat_zero]; omega)
      have hd : kg x.1 x.2 bs (argI bs x stk) inp xs ss = true := by simp [kg, k1f, k1m, k1n, allT, e, z0, z1, s1, s2] <;> omega
      simp only [ku, kr, e0, e1, e14, en, ear, ers, gv, hd, n1, n2, n3, n4, n5, n6, n7, n8, n9, n10, List.length_singleton, allT, beq_self_eq_true, Bool.not_true, Bool.false_or, Bool.true_or, Bool.or_true, cond_true, show ((0 : Int) == 1) = false from rfl, Bool.not_false]
    · have gv := gv1 (by omega)
      have tk := tk5 e
      have s1 : ltI 0 ((argI bs x stk).length : Int) = true := ltI_t (by omega)
      have s2 : ltN (Int.toNat 0) (argI bs x stk).length = true := ltN_t (by simp only [Int.toNat_zero]; omega)
      have s3 : ltI 1 ((argI bs x stk).length : Int) = true := ltI_t (by omega)
      have s4 : ltN (Int.toNat 1) (argI bs x stk).length = true := ltN_t (by rw [show Int.toNat 1 = 1 from rfl]; omega)
      have hd : kg x.1 x.2 bs (argI bs x stk) inp xs ss = true := by simp [kg, k1f, k1m, k1n, allT, e, z0, z1, s1, s2, s3, s4] <;> omega
      simp only [ku, kr, e0, e1, e14, en, ear, ers, gv, hd, n1, n2, n3, n4, n5, n6, n7, n8, n9, n10, List.length_singleton, allT, beq_self_eq_true, Bool.not_true, Bool.false_or, Bool.true_or, Bool.or_true, cond_true, show ((0 : Int) == 1) = false from rfl, Bool.not_false]
    · have gv := gv1 (by omega)
      have tk := tk6 e
      have s1 : ltI 0 ((argI bs x stk).length : Int) = true := ltI_t (by omega)
      have s2 : ltN (Int.toNat 0) (argI bs x stk).length = true := ltN_t (by simp only [Int.toNat_zero]; omega)
      have s3 : ltI 1 ((argI bs x stk).length : Int) = true := ltI_t (by omega)
      have s4 : ltN (Int.toNat 1) (argI bs x stk).length = true := ltN_t (by rw [show Int.toNat 1 = 1 from rfl]; omega)
      have hd : kg x.1 x.2 bs (argI bs x stk) inp xs ss = true := by simp [kg, k1f, k1m, k1n, allT, e, z0, z1, s1, s2, s3, s4] <;> omega
      simp only [ku, kr, e0, e1, e14, en, ear, ers, gv, hd, n1, n2, n3, n4, n5, n6, n7, n8, n9, n10, List.length_singleton, allT, beq_self_eq_true, Bool.not_true, Bool.false_or, Bool.true_or, Bool.or_true, cond_true, show ((0 : Int) == 1) = false from rfl, Bool.not_false]
    · have gv := gv1 (by omega)
      have r1 : leI 0 x.2 = true := leI_t (by omega)
      have r2 : ltI x.2 (bs.length : Int) = true := ltI_t (by omega)
      have r3 : ltN x.2.toNat bs.length = true := ltN_t (by omega)
      have r4 : ltI x.2 (ss.length : Int) = true := ltI_t (by omega)
      have r5 : ltN x.2.toNat ss.length = true := ltN_t (by omega)
      have r6 := (h7 e q).2.2.2.2.1
      have hd : kg x.1 x.2 bs (argI bs x stk) inp xs ss = true := by simp [kg, k1f, k1m, k1n, allT, e, z0, z1, r1, r2, r3, r4, r5, r6] <;> omega
      simp only [ku, kr, e0, e1, e14, en, ear, ers, gv, hd, n1, n2, n3, n4, n5, n6, n7, n8, n9, n10, List.length_singleton, allT, beq_self_eq_true, Bool.not_true, Bool.false_or, Bool.true_or, Bool.or_true, cond_true, show ((0 : Int) == 1) = false from rfl, Bool.not_false]
    · have gv := gv0 (by omega)
      have tk := tk8 e
      have s1 : ltI 0 ((argI bs x stk).length : Int) = true := ltI_t (by omega)
      have s2 : ltN (Int.toNat 0) (argI bs x stk).length = true := ltN_t (by simp only [Int.toNat_zero]; omega)
      have r1 : leI 0 x.2 = true := leI_t (by omega)
      have r2 : ltI x.2 (xs.length : Int) = true := ltI_t (by omega)
      have r3 : ltN x.2.toNat xs.length = true := ltN_t (by omega)
      have hd : k1g x.1 x.2 (argI bs x stk) inp xs os = true := by simp [k1g, allT, e, z0, z1, s1, s2, r1, r2, r3] <;> omega
      simp only [ku, kr, e0, e1, e14, en, ear, ers, gv, hd, n1, n2, n3, n4, n5, n6, n7, n8, n9, n10, List.length_singleton, allT, beq_self_eq_true, Bool.not_true, Bool.false_or, Bool.true_or, Bool.or_true, cond_true, show ((0 : Int) == 1) = false from rfl, Bool.not_false]
    · have gv := gv0 (by omega)
      have tk := tk9 e
      have s1 : ltI 0 ((argI bs x stk).length : Int) = true := ltI_t (by omega)
      have s2 : ltN (Int.toNat 0) (argI bs x stk).length = true := ltN_t (by simp only [Int.toNat_zero]; omega)
      have r1 : leI 0 x.2 = true := leI_t (by omega)
      have r2 : ltI x.2 (os.length : Int) = true := ltI_t (by omega)
      have r3 : ltN x.2.toNat os.length = true := ltN_t (by omega)
      have hd : k1g x.1 x.2 (argI bs x stk) inp xs os = true := by simp [k1g, allT, e, z0, z1, s1, s2, r1, r2, r3] <;> omega
      simp only [ku, kr, e0, e1, e14, en, ear, ers, gv, hd, n1, n2, n3, n4, n5, n6, n7, n8, n9, n10, List.length_singleton, allT, beq_self_eq_true, Bool.not_true, Bool.false_or, Bool.true_or, Bool.or_true, cond_true, show ((0 : Int) == 1) = false from rfl, Bool.not_false]
    · have gv := gv0 (by omega)
      have r1 : leI 0 x.2 = true := leI_t (by omega)
      have r2 : ltI x.2 (inp.length : Int) = true := ltI_t (by omega)
      have r3 : ltN x.2.toNat inp.length = true := ltN_t (by omega)
      have hd : k1g x.1 x.2 (argI bs x stk) inp xs os = true := by simp [k1g, allT, e, z0, z1, r1, r2, r3] <;> omega
      simp only [ku, kr, e0, e1, e14, en, ear, ers, gv, hd, n1, n2, n3, n4, n5, n6, n7, n8, n9, n10, List.length_singleton, allT, beq_self_eq_true, Bool.not_true, Bool.false_or, Bool.true_or, Bool.or_true, cond_true, show ((0 : Int) == 1) = false from rfl, Bool.not_false]
    · have gv := gv0 (by omega)
      have r1 : leI 0 x.2 = true := leI_t (by omega)
      have r2 : ltI x.2 (xs.length : Int) = true := ltI_t (by omega)
      have r3 : ltN x.2.toNat xs.length = true := ltN_t (by omega)
      have hd : k1g x.1 x.2 (argI bs x stk) inp xs os = true := by simp [k1g, allT, e, z0, z1, r1, r2, r3] <;> omega
      simp only [ku, kr, e0, e1, e14, en, ear, ers, gv, hd, n1, n2, n3, n4, n5, n6, n7, n8, n9, n10, List.length_singleton, allT, beq_self_eq_true, Bool.not_true, Bool.false_or, Bool.true_or, Bool.or_true, cond_true, show ((0 : Int) == 1) = false from rfl, Bool.not_false]

end Go.SX

namespace Go.SX
open Go.Proofs
set_option maxRecDepth 100000

abbrev k1o := Int × Int × Int × Int × List Int × List Int × List Int × List Int × List (Int × (Int × Int)) × List (Int × (ByteArray × Int)) × List (Int × Int)

def k7u (y0 : Int) (y10 : List (Int × Int)) : Bool :=
  ltI y0 (kv y10)

def kcp (y0 : Int) (y4 : List Int) (y5 : List Int) (y6 : List Int) (y7 : List Int) (y8 : List (Int × (Int × Int))) (y9 : List (Int × (ByteArray × Int))) (y10 : List (Int × Int)) : Bool :=
  ku y0 y9 y10 y4 y5 y6 y7 y8

def kd1 (y0 : Int) (y10 : List (Int × Int)) : Int :=
  k3s y0 y10

def kcs (y0 : Int) (y4 : List Int) (y5 : List Int) (y6 : List Int) (y8 : List (Int × (Int × Int))) (y9 : List (Int × (ByteArray × Int))) (y10 : List (Int × Int)) : List Int :=
  k3r y0 y9 y10 y4 y5 y6 y8

def kct (y0 : Int) (y5 : List Int) (y6 : List Int) (y9 : List (Int × (ByteArray × Int))) (y10 : List (Int × Int)) : List Int :=
  k3q y0 y9 y10 y5 y6

def kcx (y0 : Int) (y4 : List Int) (y5 : List Int) (y6 : List Int) (y7 : List Int) (y9 : List (Int × (ByteArray × Int))) (y10 : List (Int × Int)) : List Int :=
  k3m y0 y9 y10 y4 y5 y6 y7

def kd8 (y0 : Int) (y5 : List Int) (y8 : List (Int × (Int × Int))) (y9 : List (Int × (ByteArray × Int))) (y10 : List (Int × Int)) : List (Int × (Int × Int)) :=
  k3k y0 y9 y10 y5 y8

def kj2 : k1o → List (Nat × SV)
  | (_, _, _, _, _, _, _, _, _, _, _) => [(0, (.one ⟨false, [(.ptr 0 0)]⟩)), (4, (.one ⟨false, [(.ptr 1 0)]⟩)), (2, (.one ⟨false, [(.ref 2)]⟩))]

def kjn : k1o → List (Nat × Entry)
  | (y0, y1, y2, y3, y4, y5, y6, y7, y8, y9, y10) => [(0, (.box 77 [(.val (.int IntKind.i64 y0)), (.ref 3), (.ref 4), (.ref 5), (.ref 6)])), (1, (.box 34 [(.val (.int IntKind.i64 y1)), (.val (.int IntKind.i64 y2)), (.val (.int IntKind.i64 y3)), (.ref 7), (.ref 8)])), (2, (.row false 2 (CTy.int IntKind.i64) y4)), (4, (.row true 2 (CTy.int IntKind.i64) y6)), (5, (.row true 2 (CTy.int IntKind.i64) y7)), (6, (.row true 172 (CTy.pair (CTy.int IntKind.i64) (CTy.pair (CTy.int IntKind.i64) (CTy.int IntKind.i64))) y8)), (7, (.row false 178 (CTy.pair (CTy.int IntKind.i64) (CTy.pair CTy.str (CTy.int IntKind.i64))) y9)), (8, (.row false 150 (CTy.pair (CTy.int IntKind.i64) (CTy.int IntKind.i64)) y10)), (3, (.row true 2 (CTy.int IntKind.i64) y5))]

def kj9 : Nat → k1o → List (Nat × SV)
  | _, (_, _, _, _, _, _, _, _, _, _, _) => []

def kj5 : Nat → k1o → List (Nat × Entry)
  | _, (y0, y1, y2, y3, y4, y5, y6, y7, y8, y9, y10) => [(0, (.box 77 [(.val (.int IntKind.i64 y0)), (.ref 3), (.ref 4), (.ref 5), (.ref 6)])), (1, (.box 34 [(.val (.int IntKind.i64 y1)), (.val (.int IntKind.i64 y2)), (.val (.int IntKind.i64 y3)), (.ref 7), (.ref 8)])), (2, (.row false 2 (CTy.int IntKind.i64) y4)), (3, (.row true 2 (CTy.int IntKind.i64) y5)), (4, (.row true 2 (CTy.int IntKind.i64) y6)), (5, (.row true 2 (CTy.int IntKind.i64) y7)), (6, (.row true 172 (CTy.pair (CTy.int IntKind.i64) (CTy.pair (CTy.int IntKind.i64) (CTy.int IntKind.i64))) y8)), (7, (.row false 178 (CTy.pair (CTy.int IntKind.i64) (CTy.pair CTy.str (CTy.int IntKind.i64))) y9)), (8, (.row false 150 (CTy.pair (CTy.int IntKind.i64) (CTy.int IntKind.i64)) y10))]

def k7i : k1o → LT k1o
  | (y0, y1, y2, y3, y4, y5, y6, y7, y8, y9, y10) => .ite (k7u y0 y10) (.need [(kcp y0 y4 y5 y6 y7 y8 y9 y10)] (.nrm ((kd1 y0 y10), y1, y2, y3, y4, (kcs y0 y4 y5 y6 y8 y9 y10), (kct y0 y5 y6 y9 y10), (kcx y0 y4 y5 y6 y7 y9 y10), (kd8 y0 y5 y8 y9 y10), y9, y10) [(0, 0), (1, 1), (2, 2), (3, 768), (4, 4), (5, 5), (6, 6), (7, 7), (8, 8)])) (.ext 0 [(0, 0), (1, 1), (2, 2), (3, 3), (4, 4), (5, 5), (6, 6), (7, 7), (8, 8)])

def k7e (s : St) : Option k1o :=
  (match s.look 0 with
  | some ⟨none, (.one ⟨false, [(.ptr 0 0)]⟩)⟩ =>
  (match s.look 4 with
  | some ⟨none, (.one ⟨false, [(.ptr 576 0)]⟩)⟩ =>
  (match s.look 2 with
  | some ⟨none, (.one ⟨false, [(.ref 3)]⟩)⟩ =>
  (match s.ent 0 with
  | some (.box 77 [(.val (.int IntKind.i64 y0)), (.ref 4), (.ref 5), (.ref 6), (.ref 7)]) =>
  (match s.ent 576 with
  | some (.box 34 [(.val (.int IntKind.i64 y1)), (.val (.int IntKind.i64 y2)), (.val (.int IntKind.i64 y3)), (.ref 1), (.ref 2)]) =>
  (match s.ent 3 with
  | some (.row false 2 (CTy.int IntKind.i64) y4) =>
  (match s.ent 5 with
  | some (.row true 2 (CTy.int IntKind.i64) y6) =>
  (match s.ent 6 with
  | some (.row true 2 (CTy.int IntKind.i64) y7) =>
  (match s.ent 7 with
  | some (.row true 172 (CTy.pair (CTy.int IntKind.i64) (CTy.pair (CTy.int IntKind.i64) (CTy.int IntKind.i64))) y8) =>
  (match s.ent 1 with
  | some (.row false 178 (CTy.pair (CTy.int IntKind.i64) (CTy.pair CTy.str (CTy.int IntKind.i64))) y9) =>
  (match s.ent 2 with
  | some (.row false 150 (CTy.pair (CTy.int IntKind.i64) (CTy.int IntKind.i64)) y10) =>
  (match s.ent 4 with
  | some (.row true 2 (CTy.int IntKind.i64) y5) =>
  some (y0, y1, y2, y3, y4, y5, y6, y7, y8, y9, y10)
  | _ => none)
  | _ => none)
  | _ => none)
  | _ => none)
  | _ => none)
  | _ => none)
  | _ => none)
  | _ => none)
  | _ => none)
  | _ => none)
  | _ => none)
  | _ => none)

def k1a : Lp k1o where
  h := ⟨[6, 7, 8, 9, 10, 11, 12, 13, 14, 15, 16, 17], [0, 1, 2, 4, 5, 6, 7, 8], [3], []⟩
  JL := kj2
  JE := kjn
  XL := kj9
  XE := kj5
  q := fun j => match j with | _ => .exit 0
  tags := [0]
  lt := k7i
  fuel := fun (y0, y1, y2, y3, y4, y5, y6, y7, y8, y9, y10) => y0.natAbs + y1.natAbs + y2.natAbs + y3.natAbs + y4.length + y5.length + y6.length + y7.length + y8.length + y9.length + y10.length
  fix := fun (_, y1, y2, y3, y4, _, _, _, _, y9, y10) (y0, _, _, _, _, y5, y6, y7, y8, _, _) => (y0, y1, y2, y3, y4, y5, y6, y7, y8, y9, y10)
  σ := [(0, 0), (1, 576), (2, 3), (4, 5), (5, 6), (6, 7), (7, 1), (8, 2), (3, 4)]
  rd := k7e

theorem kio : LoopOk Tryz.prog (fun k => Nat.blt k Tryz.f128.ntmps) k1a.F (loopAt Tryz.f128 0) := by
  refine Lp.ok (tbl := [k2t, PF.lend k2t, ka9]) (lf := []) hmix k1a (by kernel_rfl) (LOk.nil _) (fun _ => rfl) (fun _ _ => rfl) ?_ ?_ ?_ ?_ (fun _ => rfl) ?_
  · intro x; obtain ⟨y0, y1, y2, y3, y4, y5, y6, y7, y8, y9, y10⟩ := x; kernel_rfl
  · intro x; obtain ⟨y0, y1, y2, y3, y4, y5, y6, y7, y8, y9, y10⟩ := x; kernel_rfl
  · intro s x h
    have h : k7e s = some x := h
    unfold k7e at h
    repeat' split at h
    all_goals cases h
    exact ⟨absS_cons (by assumption) rfl (absS_cons (by assumption) rfl (absS_cons (by assumption) rfl (rfl))), absE_cons rfl (by assumption) rfl (absE_cons rfl (by assumption) rfl (absE_cons rfl (by assumption) rfl (absE_cons rfl (by assumption) rfl (absE_cons rfl (by assumption) rfl (absE_cons rfl (by assumption) rfl (absE_cons rfl (by assumption) rfl (absE_cons rfl (by assumption) rfl (absE_cons rfl (by assumption) rfl (rfl)))))))))⟩
  · intro x; obtain ⟨y0, y1, y2, y3, y4, y5, y6, y7, y8, y9, y10⟩ := x; kernel_rfl
  · intro x z; obtain ⟨y0, y1, y2, y3, y4, y5, y6, y7, y8, y9, y10⟩ := x; exact (And.intro rfl trivial)

def k4u (x0 : Int) (x1 : Int) (x2 : Int) (x3 : Int) (x4 : List (Int × ByteArray × Int)) (x5 : List (Int × Int)) (x6 : List Int) (x7 : List Int) (x8 : List Int) (x9 : List Int) (x10 : List (Int × Int × Int)) : Int × Int × Int × Int × List Int × List Int × List Int × List Int × List (Int × Int × Int) × List (Int × ByteArray × Int) × List (Int × Int) :=
  (x3, x0, x1, x2, x6, x7, x8, x9, x10, x4, x5)

def k8k (x0 : Int) (x1 : Int) (x2 : Int) (x3 : Int) (x4 : List (Int × ByteArray × Int)) (x5 : List (Int × Int)) (x6 : List Int) (x7 : List Int) (x8 : List Int) (x9 : List Int) (x10 : List (Int × Int × Int)) : List Int × List Int × List Int × List (Int × Int × Int) × List (Int × ByteArray × Int) × List (Int × Int) :=
  Prod.snd
  (Prod.snd
    (Prod.snd
      (Prod.snd
        (Prod.snd
          (Prod.snd
            (Lp.res k1a
              (k4u x0 x1 x2 x3 x4 x5 x6 x7 x8 x9 x10)))))))

def k8h (x0 : Int) (x1 : Int) (x2 : Int) (x3 : Int) (x4 : List (Int × ByteArray × Int)) (x5 : List (Int × Int)) (x6 : List Int) (x7 : List Int) (x8 : List Int) (x9 : List Int) (x10 : List (Int × Int × Int)) : List Int × List Int × List (Int × Int × Int) × List (Int × ByteArray × Int) × List (Int × Int) :=
  Prod.snd (k8k x0 x1 x2 x3 x4 x5 x6 x7 x8 x9 x10)

def k8f (x0 : Int) (x1 : Int) (x2 : Int) (x3 : Int) (x4 : List (Int × ByteArray × Int)) (x5 : List (Int × Int)) (x6 : List Int) (x7 : List Int) (x8 : List Int) (x9 : List Int) (x10 : List (Int × Int × Int)) : List Int × List (Int × Int × Int) × List (Int × ByteArray × Int) × List (Int × Int) :=
  Prod.snd (k8h x0 x1 x2 x3 x4 x5 x6 x7 x8 x9 x10)

def k9a (x0 : Int) (x1 : Int) (x2 : Int) (x3 : Int) (x4 : List (Int × ByteArray × Int)) (x5 : List (Int × Int)) (x6 : List Int) (x7 : List Int) (x8 : List Int) (x9 : List Int) (x10 : List (Int × Int × Int)) : Int :=
  Prod.fst
  (Prod.snd
    (Lp.res k1a (k4u x0 x1 x2 x3 x4 x5 x6 x7 x8 x9 x10)))

def k98 (x0 : Int) (x1 : Int) (x2 : Int) (x3 : Int) (x4 : List (Int × ByteArray × Int)) (x5 : List (Int × Int)) (x6 : List Int) (x7 : List Int) (x8 : List Int) (x9 : List Int) (x10 : List (Int × Int × Int)) : List Int :=
  Prod.fst (k8h x0 x1 x2 x3 x4 x5 x6 x7 x8 x9 x10)

def k9f (x0 : Int) (x1 : Int) (x2 : Int) (x3 : Int) (x4 : List (Int × ByteArray × Int)) (x5 : List (Int × Int)) (x6 : List Int) (x7 : List Int) (x8 : List Int) (x9 : List Int) (x10 : List (Int × Int × Int)) : List Int :=
  Prod.fst (k8f x0 x1 x2 x3 x4 x5 x6 x7 x8 x9 x10)

def k9d (x0 : Int) (x1 : Int) (x2 : Int) (x3 : Int) (x4 : List (Int × ByteArray × Int)) (x5 : List (Int × Int)) (x6 : List Int) (x7 : List Int) (x8 : List Int) (x9 : List Int) (x10 : List (Int × Int × Int)) : List (Int × (Int × Int)) :=
  Prod.fst (Prod.snd (k8f x0 x1 x2 x3 x4 x5 x6 x7 x8 x9 x10))

def k97 (x0 : Int) (x1 : Int) (x2 : Int) (x3 : Int) (x4 : List (Int × ByteArray × Int)) (x5 : List (Int × Int)) (x6 : List Int) (x7 : List Int) (x8 : List Int) (x9 : List Int) (x10 : List (Int × Int × Int)) : List Int :=
  Prod.fst (k8k x0 x1 x2 x3 x4 x5 x6 x7 x8 x9 x10)

def k99 (x0 : Int) (x1 : Int) (x2 : Int) (x3 : Int) (x4 : List (Int × ByteArray × Int)) (x5 : List (Int × Int)) (x6 : List Int) (x7 : List Int) (x8 : List Int) (x9 : List Int) (x10 : List (Int × Int × Int)) : Bool :=
  allT [Lp.fin k1a (k4u x0 x1 x2 x3 x4 x5 x6 x7 x8 x9 x10)]

def ke2 : List SV → List Entry → Option Out
  | [.one ⟨false, [.ptr 0 0]⟩, .one ⟨true, [.val (.int .i64 x0), .val (.int .i64 x1), .val (.int .i64 x2), .ref 1, .ref 2]⟩, .one ⟨false, [.ref 3]⟩], [.box 77 [.val (.int .i64 x3), .ref 4, .ref 5, .ref 6, .ref 7], .row false 178 (.pair (.int .i64) (.pair .str (.int .i64))) x4, .row false 150 (.pair (.int .i64) (.int .i64)) x5, .row false 2 (.int .i64) x6, .row true 2 (.int .i64) x7, .row true 2 (.int .i64) x8, .row true 2 (.int .i64) x9, .row true 172 (.pair (.int .i64) (.pair (.int .i64) (.int .i64))) x10] => some ⟨(.tup []), [(.box 77 [(.val (.int IntKind.i64 (k9a x0 x1 x2 x3 x4 x5 x6 x7 x8 x9 x10))), (.ref 8), (.ref 5), (.ref 6), (.ref 7)]), (.row false 178 (CTy.pair (CTy.int IntKind.i64) (CTy.pair CTy.str (CTy.int IntKind.i64))) x4), (.row false 150 (CTy.pair (CTy.int IntKind.i64) (CTy.int IntKind.i64)) x5), (.row false 2 (CTy.int IntKind.i64) x6), .gone, (.row true 2 (CTy.int IntKind.i64) (k98 x0 x1 x2 x3 x4 x5 x6 x7 x8 x9 x10)), (.row true 2 (CTy.int IntKind.i64) (k9f x0 x1 x2 x3 x4 x5 x6 x7 x8 x9 x10)), (.row true 172 (CTy.pair (CTy.int IntKind.i64) (CTy.pair (CTy.int IntKind.i64) (CTy.int IntKind.i64))) (k9d x0 x1 x2 x3 x4 x5 x6 x7 x8 x9 x10))], [(.row true 2 (CTy.int IntKind.i64) (k97 x0 x1 x2 x3 x4 x5 x6 x7 x8 x9 x10))], [(k99 x0 x1 x2 x3 x4 x5 x6 x7 x8 x9 x10)]⟩
  | _, _ => none

def kl8 : PF Tryz.prog := PF.ofG Tryz.prog [k2t, PF.lend k2t, ka9] [k1a.F] hmix 128 Tryz.f128 Tryz.func128 (LOk.fnT (l := [loopAt Tryz.f128 0]) (by kernel_rfl) (.cons kio (.nil _))) ke2 (by
  intro vs es r h; unfold ke2 at h; split at h
  · cases h; kernel_rfl
  · cases h)

end Go.SX

namespace Go.SX
open Go.Proofs
set_option maxRecDepth 100000

abbrev MS := Int × List Int × List Int × List Int × List BS3
def insAt (st : List IN) (k : Int) : IN := Option.getD st[k.toNat]? ((0 : Int), (0 : Int))
def stpM (bs : List TM) (st : List IN) (inp : List Int) : MS → MS
  | (k, stk, xs, os, ss) => (k + 1, stkM bs inp (insAt st k) stk xs ss, vlsM bs (insAt st k) stk xs, outM bs inp (insAt st k) stk xs os, blkM bs (insAt st k) stk ss)
def finM (bs : List TM) (st : List IN) (inp : List Int) : Nat → MS → MS
  | 0, m => m
  | n + 1, m => finM bs st inp n (stpM bs st inp m)

def OkS (i v o : Int) (bs : List TM) (st : List IN) (m : MS) : Prop := OkM i v o bs st m.1 m.2.1 m.2.2.1 m.2.2.2.1 m.2.2.2.2

theorem stp_ok {i v o : Int} {bs : List TM} {st : List IN} {inp : List Int} {m : MS} (hC : codeB i v o bs st = true) (hin : bitsB i inp = true) (h : OkS i v o bs st m) (hlt : m.1 < st.length) :
    OkS i v o bs st (stpM bs st inp m) ∧ st[m.1.toNat]? = some (insAt st m.1) := by
  obtain ⟨k, stk, xs, os, ss⟩ := m
  have h0 := h.lo
  simp only at h0 hlt
  have hk : k.toNat < st.length := by omega
  have hx : st[k.toNat]? = some (insAt st k) := by simp only [insAt, List.getElem?_eq_getElem hk]; rfl
  exact ⟨(k175 hC hin h hlt hx).2.2.2.2.2, hx⟩

/-- A loop that steps a machine to its end. -/
theorem k17v {X : Type} (p : Lp X) (enc : MS → X) {i v o : Int} {bs : List TM} {st : List IN} {inp : List Int} (hC : codeB i v o bs st = true) (hin : bitsB i inp = true)
    (h1 : ∀ m : MS, OkS i v o bs st m → m.1 < st.length → (p.lt (enc m)).out = some (.inr (enc (stpM bs st inp m)))) (h2 : ∀ m : MS, m.1 = st.length → (p.lt (enc m)).out = some (.inl 0))
    (hf : ∀ m, st.length ≤ p.fuel (enc m)) (m : MS) (hm : OkS i v o bs st m) :
    p.fin (enc m) = true ∧ p.res (enc m) = (0, enc (finM bs st inp (st.length - m.1.toNat) m)) ∧ OkS i v o bs st (finM bs st inp (st.length - m.1.toNat) m) := by
  have key : ∀ (n : Nat) (m : MS), OkS i v o bs st m → st.length - m.1.toNat = n → runL p.lt (n + 1) (enc m) = some (0, enc (finM bs st inp n m)) ∧ OkS i v o bs st (finM bs st inp n m) := by
    intro n
    induction n with
    | zero =>
      intro m hm hn
      have := hm.lo
      have := hm.hi
      exact ⟨runL_end _ (h2 m (by omega)), hm⟩
    | succ n ih =>
      intro m hm hn
      have h0 := hm.lo
      have hlt : m.1 < st.length := by omega
      have hs := (stp_ok hC hin hm hlt).1
      have he : (stpM bs st inp m).1 = m.1 + 1 := rfl
      obtain ⟨r1, r2⟩ := ih _ hs (by rw [he]; omega)
      exact ⟨by rw [runL_next _ (h1 m hm hlt)]; exact r1, r2⟩
  obtain ⟨r1, r2⟩ := key _ m hm rfl
  obtain ⟨q1, q2⟩ := p.run r1 (le_big (by have := hf m; omega))
  exact ⟨q1, q2, r2⟩

/-- The height at a place. -/
def hAt (i v o : Int) (bs : List TM) (st : List IN) (k : Int) : Int := bif ltI 0 k then atZ (hgtL i v o bs st) (k - 1) else 0
/-- A machine that is possible for a code. -/
def mchB (i v o : Int) (bs : List TM) (st : List IN) (k : Int) (stk xs os : List Int) (ss : List BS3) : Bool :=
  inR k 0 st.length && (bitsB (hAt i v o bs st k) stk && (bitsB o os && suitB v bs xs ss))

theorem k187 {v : Int} {bs : List TM} {xs : List Int} {ss : List BS3} : suitB v bs xs ss = true ↔ ss.length = bs.length ∧ bitsB v xs = true ∧ ∀ k, k < bs.length → possAt bs ss k = true := by
  simp only [suitB, Bool.and_eq_true, beq_iff_eq, List.all_eq_true, List.mem_range]
  constructor
  · rintro ⟨h1, h2, h3⟩; exact ⟨by omega, h2, h3⟩
  · rintro ⟨h1, h2, h3⟩; exact ⟨by omega, h2, h3⟩

theorem mch_ok {i v o : Int} {bs : List TM} {st : List IN} {k : Int} {stk xs os : List Int} {ss : List BS3} (hC : codeB i v o bs st = true) (h : mchB i v o bs st k stk xs os ss = true) : OkM i v o bs st k stk xs os ss := by
  simp only [mchB, Bool.and_eq_true, kux] at h
  obtain ⟨⟨k0, k1⟩, h2, h3, h4⟩ := h
  obtain ⟨s1, s2, s3⟩ := k187.1 h4
  simp only [codeB, Bool.and_eq_true] at hC
  obtain ⟨b1, b2⟩ := kel.1 h2
  refine ⟨k0, k1, ?_, b1, s2, h3, s1, s3⟩
  obtain ⟨n, L, g1, g2, g3, g4⟩ := k17z hC.2.2 k.toNat (by omega)
  refine ⟨L, ?_⟩
  rw [g1, b2]
  by_cases hk : 0 < k
  · have := g4 (by omega)
    have ht : ltI 0 k = true := ltI_t hk
    simp only [hAt, ht, cond_true]
    rw [show ((k.toNat : Int) - 1) = k - 1 by omega] at this
    rw [this]
  · have ht : ltI 0 k = false := ltI_f (by omega)
    simp only [hAt, ht, cond_false]
    rw [g3 (by omega)]

/-- The lengths of a possible machine. -/
theorem ok_len {i v o : Int} {bs : List TM} {st : List IN} {m : MS} (hC : codeB i v o bs st = true) (h : OkS i v o bs st m) : m.2.1.length ≤ 40 ∧ m.2.2.1.length ≤ 20 ∧ m.2.2.2.1.length ≤ 20 ∧ m.2.2.2.2.length ≤ 2000 := by
  obtain ⟨k, stk, xs, os, ss⟩ := m
  simp only [codeB, Bool.and_eq_true] at hC
  obtain ⟨ri, rv, ro, rb, rs⟩ := kyf.1 hC.1
  obtain ⟨L, hL⟩ := h.hg
  have h2 := k16m _ _ _ _ _ (by omega) hL
  have hxl := (kel.1 h.vl).2
  have hol := (kel.1 h.ou).2
  have hsl := h.sl
  simp only at h2 hxl hol hsl ⊢
  omega

def fnM (bs : List TM) (st : List IN) (inp : List Int) (k : Int) (stk xs os : List Int) (ss : List BS3) : MS := finM bs st inp (st.length - k.toNat) (k, stk, xs, os, ss)
def runNd (i v o : Int) (bs : List TM) (st : List IN) (inp : List Int) (k : Int) (stk xs os : List Int) (ss : List BS3) : Bool := codeB i v o bs st && (bitsB i inp && mchB i v o bs st k stk xs os ss)

theorem implFin (i v o : Int) (bs : List TM) (st : List IN) (inp : List Int) (k : Int) (stk xs os : List Int) (ss : List BS3) (h : runNd i v o bs st inp k stk xs os ss = true) :
    k9a i v o k bs st inp stk xs os ss = (fnM bs st inp k stk xs os ss).1 ∧ k98 i v o k bs st inp stk xs os ss = (fnM bs st inp k stk xs os ss).2.2.1 ∧
    k9f i v o k bs st inp stk xs os ss = (fnM bs st inp k stk xs os ss).2.2.2.1 ∧ k9d i v o k bs st inp stk xs os ss = (fnM bs st inp k stk xs os ss).2.2.2.2 ∧
    k97 i v o k bs st inp stk xs os ss = (fnM bs st inp k stk xs os ss).2.1 ∧ k99 i v o k bs st inp stk xs os ss = true := by
  simp only [runNd, Bool.and_eq_true] at h
  obtain ⟨hC, hin, hm⟩ := h
  have hm := mch_ok hC hm
  obtain ⟨f1, f2, _⟩ := k17v k1a (fun m => (m.1, i, v, o, inp, m.2.1, m.2.2.1, m.2.2.2.1, m.2.2.2.2, bs, st)) hC hin
    (fun m hm hlt => by
      obtain ⟨k, stk, xs, os, ss⟩ := m
      obtain ⟨_, hx⟩ := stp_ok hC hin hm hlt
      obtain ⟨e0, e4, e1, e2, e3, e5⟩ := implStep hC hin hm hlt hx
      simp only at hlt e0 e1 e2 e3 e4 e5
      have t1 : ltI k (st.length : Int) = true := ltI_t hlt
      simp only [k1a, k7i, LT.out, k7u, kcp, kd1, kcs, kct, kcx, kd8, kv, t1, e0, e1, e2, e3, e4, e5, stpM, allT]
      rfl)
    (fun m hk => by
      obtain ⟨k, stk, xs, os, ss⟩ := m
      simp only at hk
      have t1 : ltI k (st.length : Int) = false := ltI_f (by omega)
      simp only [k1a, k7i, LT.out, k7u, kv, t1, cond_false])
    (fun m => by simp only [k1a]; omega) (k, stk, xs, os, ss) hm
  simp only at f1 f2
  simp only [k9a, k98, k9f, k9d, k97, k99, k4u, k8k, k8h, k8f, f1, f2, allT, fnM, and_self, cond_true]

theorem specFin (i v o : Int) (bs : List TM) (st : List IN) (inp : List Int) (k : Int) (stk xs os : List Int) (ss : List BS3) (h : runNd i v o bs st inp k stk xs os ss = true) :
    kuk i v o k bs st stk xs os ss inp = (fnM bs st inp k stk xs os ss).1 ∧ kuv i v o k bs st stk xs os ss inp = (fnM bs st inp k stk xs os ss).2.1 ∧
    kur i v o k bs st stk xs os ss inp = (fnM bs st inp k stk xs os ss).2.2.1 ∧ kub i v o k bs st stk xs os ss inp = (fnM bs st inp k stk xs os ss).2.2.2.1 ∧
    kuh i v o k bs st stk xs os ss inp = (fnM bs st inp k stk xs os ss).2.2.2.2 ∧ kuo i v o k bs st stk xs os ss inp = true := by
  simp only [runNd, Bool.and_eq_true] at h
  obtain ⟨hC, hin, hm⟩ := h
  have hm := mch_ok hC hm
  obtain ⟨l1, l2, l3, l4⟩ := ok_len (m := (k, stk, xs, os, ss)) hC hm
  simp only at l1 l2 l3 l4
  obtain ⟨f1, f2, _⟩ := k17v k7y (fun m => (m.1, i, v, o, inp, m.2.1, m.2.2.1, m.2.2.2.1, m.2.2.2.2, bs, st)) hC hin
    (fun m hm hlt => by
      obtain ⟨k, stk, xs, os, ss⟩ := m
      obtain ⟨_, hx⟩ := stp_ok hC hin hm hlt
      obtain ⟨e0, e1, e2, e3, e4, e5⟩ := specStep hC hin hm hlt hx
      simp only at hlt e0 e1 e2 e3 e4 e5
      have t1 : ltI k (st.length : Int) = true := ltI_t hlt
      simp only [k7y, kpz, LT.out, kqp, kvi, kva, kvb, kvm, kv8, kvj, t1, e0, e1, e2, e3, e4, e5, stpM, allT]
      rfl)
    (fun m hk => by
      obtain ⟨k, stk, xs, os, ss⟩ := m
      simp only at hk
      have t1 : ltI k (st.length : Int) = false := ltI_f (by omega)
      simp only [k7y, kpz, LT.out, kqp, t1, cond_false])
    (fun m => by simp only [k7y]; omega) (k, stk, xs, os, ss) hm
  simp only at f1 f2
  have t1 : leN stk.length 1048576 = true := leN_t (by omega)
  have t2 : leN xs.length 1048576 = true := leN_t (by omega)
  have t3 : leN os.length 1048576 = true := leN_t (by omega)
  have t4 : leN (0 + ss.length) 9223372036854775807 = true := leN_t (by omega)
  have t5 : leN ((0 + ss.length) * 24) 140737488355328 = true := leN_t (by omega)
  simp only [kuk, kuv, kur, kub, kuh, kuo, kpn, kt5, ktb, kte, f1, f2, t1, t2, t3, t4, t5, allT, fnM, and_self, cond_true]

def ke4 : List SV → List Entry → Option Out
  | [.one ⟨false, [.ptr 0 0]⟩, .one ⟨true, [.val (.int .i64 x0), .val (.int .i64 x1), .val (.int .i64 x2), .ref 1, .ref 2]⟩, .one ⟨false, [.ref 3]⟩], [.box 77 [.val (.int .i64 x3), .ref 4, .ref 5, .ref 6, .ref 7], .row false 178 (.pair (.int .i64) (.pair .str (.int .i64))) x4, .row false 150 (.pair (.int .i64) (.int .i64)) x5, .row false 2 (.int .i64) x6, .row true 2 (.int .i64) x7, .row true 2 (.int .i64) x8, .row true 2 (.int .i64) x9, .row true 172 (.pair (.int .i64) (.pair (.int .i64) (.int .i64))) x10] => some ⟨(.tup []), [(.box 77 [(.val (.int IntKind.i64 ((fnM x4 x5 x6 x3 x7 x8 x9 x10).1))), (.ref 8), (.ref 5), (.ref 6), (.ref 7)]), (.row false 178 (CTy.pair (CTy.int IntKind.i64) (CTy.pair CTy.str (CTy.int IntKind.i64))) x4), (.row false 150 (CTy.pair (CTy.int IntKind.i64) (CTy.int IntKind.i64)) x5), (.row false 2 (CTy.int IntKind.i64) x6), .gone, (.row true 2 (CTy.int IntKind.i64) ((fnM x4 x5 x6 x3 x7 x8 x9 x10).2.2.1)), (.row true 2 (CTy.int IntKind.i64) ((fnM x4 x5 x6 x3 x7 x8 x9 x10).2.2.2.1)), (.row true 172 (CTy.pair (CTy.int IntKind.i64) (CTy.pair (CTy.int IntKind.i64) (CTy.int IntKind.i64))) ((fnM x4 x5 x6 x3 x7 x8 x9 x10).2.2.2.2))], [(.row true 2 (CTy.int IntKind.i64) ((fnM x4 x5 x6 x3 x7 x8 x9 x10).2.1))], [runNd x0 x1 x2 x4 x5 x6 x3 x7 x8 x9 x10]⟩
  | _, _ => none

def klb : PF Tryz.prog := PF.alt kl8 ke4 (by
  intro args es o h hnd; unfold ke4 at h; split at h
  · rename_i x0 x1 x2 x3 x4 x5 x6 x7 x8 x9 x10
    cases h
    have hnd := nd_fst hnd
    have hh := implFin x0 x1 x2 x4 x5 x6 x3 x7 x8 x9 x10 hnd
    obtain ⟨e0, e1, e2, e3, e4, en⟩ := hh
    exact altok rfl (nd_one en) rfl (by simp only [e0, e1, e2, e3] <;> rfl) (by simp only [e4] <;> rfl)
  · cases h)

def kyq : List SV → List Entry → Option Out
  | [.one ⟨true, [.val (.int .i64 x0), .val (.int .i64 x1), .val (.int .i64 x2), .ref 0, .ref 1]⟩, .one ⟨true, [.val (.int .i64 x3), .ref 2, .ref 3, .ref 4, .ref 5]⟩, .one ⟨false, [.ref 6]⟩], [.row false 178 (.pair (.int .i64) (.pair (.str) (.int .i64))) x4, .row false 150 (.pair (.int .i64) (.int .i64)) x5, .row false 2 (.int .i64) x6, .row false 2 (.int .i64) x7, .row false 2 (.int .i64) x8, .row false 172 (.pair (.int .i64) (.pair (.int .i64) (.int .i64))) x9, .row false 2 (.int .i64) x10] => some ⟨(.one ⟨true, [(.val (.int IntKind.i64 ((fnM x4 x5 x10 x3 x6 x7 x8 x9).1))), (.ref 7), (.ref 8), (.ref 9), (.ref 10)]⟩), [(.row false 178 (CTy.pair (CTy.int IntKind.i64) (CTy.pair CTy.str (CTy.int IntKind.i64))) x4), (.row false 150 (CTy.pair (CTy.int IntKind.i64) (CTy.int IntKind.i64)) x5), (.row false 2 (CTy.int IntKind.i64) x6), (.row false 2 (CTy.int IntKind.i64) x7), (.row false 2 (CTy.int IntKind.i64) x8), (.row false 172 (CTy.pair (CTy.int IntKind.i64) (CTy.pair (CTy.int IntKind.i64) (CTy.int IntKind.i64))) x9), (.row false 2 (CTy.int IntKind.i64) x10)], [(.row false 2 (CTy.int IntKind.i64) ((fnM x4 x5 x10 x3 x6 x7 x8 x9).2.1)), (.row false 2 (CTy.int IntKind.i64) ((fnM x4 x5 x10 x3 x6 x7 x8 x9).2.2.1)), (.row false 2 (CTy.int IntKind.i64) ((fnM x4 x5 x10 x3 x6 x7 x8 x9).2.2.2.1)), (.row false 172 (CTy.pair (CTy.int IntKind.i64) (CTy.pair (CTy.int IntKind.i64) (CTy.int IntKind.i64))) ((fnM x4 x5 x10 x3 x6 x7 x8 x9).2.2.2.2))], [runNd x0 x1 x2 x4 x5 x10 x3 x6 x7 x8 x9]⟩
  | _, _ => none

def kue : PF Tryz.prog := PF.alt k14c kyq (by
  intro args es o h hnd; unfold kyq at h; split at h
  · rename_i x0 x1 x2 x3 x4 x5 x6 x7 x8 x9 x10
    cases h
    have hnd := nd_fst hnd
    have hh := specFin x0 x1 x2 x4 x5 x10 x3 x6 x7 x8 x9 hnd
    obtain ⟨e0, e1, e2, e3, e4, en⟩ := hh
    exact altok rfl (nd_one en) (by simp only [e0] <;> rfl) rfl (by simp only [e1, e2, e3, e4] <;> rfl)
  · cases h)

end Go.SX

namespace Go.SX
open Go.Proofs
set_option maxRecDepth 100000

def k8w (x3 : Int) (x5 : List (Int × Int)) : Bool :=
  !k1u x3 (0 : Int) (↑(List.length x5) : Int)

def kgu (x3 : Int) : Int :=
  IntKind.wrap IntKind.i64 (x3 - (1 : Int))

def knm (x0 : Int) (x1 : Int) (x2 : Int) (x3 : Int) (x4 : List (Int × ByteArray × Int)) (x5 : List (Int × Int)) (x6 : List Int) : Bool :=
  bitsB (bif ltI (0 : Int) x3 then Option.getD (hgtL x0 x1 x2 x4 x5)[Int.toNat (kgu x3)]? (0 : Int) else (0 : Int)) x6

def kql (x0 : Int) (x1 : Int) (x2 : Int) (x3 : Int) (x4 : List (Int × ByteArray × Int)) (x5 : List (Int × Int)) (x6 : List Int) (x8 : List Int) : Bool :=
  bif knm x0 x1 x2 x3 x4 x5 x6 then bitsB x2 x8 else false

def krp (x0 : Int) (x1 : Int) (x2 : Int) (x3 : Int) (x4 : List (Int × ByteArray × Int)) (x5 : List (Int × Int)) (x6 : List Int) (x7 : List Int) (x8 : List Int) (x9 : List (Int × Int × Int)) : Bool :=
  bif k8w x3 x5 then false else bif kql x0 x1 x2 x3 x4 x5 x6 x8 then suitB x1 x4 x7 x9 else false

def ksb (x0 : Int) (x1 : Int) (x2 : Int) (x3 : Int) (x4 : List (Int × ByteArray × Int)) (x5 : List (Int × Int)) (x6 : List Int) (x7 : List Int) (x8 : List Int) : Bool :=
  allT
  [k8w x3 x5 || (!ltI (0 : Int) x3 || leN (List.length x5) (2000 : Nat) && leN (List.length x4) (2000 : Nat)),
    k8w x3 x5 || (!ltI (0 : Int) x3 || leI (0 : Int) (kgu x3)),
    k8w x3 x5 || (!ltI (0 : Int) x3 || ltI (kgu x3) (↑(List.length (hgtL x0 x1 x2 x4 x5)) : Int)),
    k8w x3 x5 || (!ltI (0 : Int) x3 || ltN (Int.toNat (kgu x3)) (List.length (hgtL x0 x1 x2 x4 x5))),
    k8w x3 x5 || leN (List.length x6) (9223372036854775807 : Nat),
    k8w x3 x5 || (!(knm x0 x1 x2 x3 x4 x5 x6 && true) || leN (List.length x8) (9223372036854775807 : Nat)),
    k8w x3 x5 ||
      (!(kql x0 x1 x2 x3 x4 x5 x6 x8 && true) ||
        leN (List.length x7) (9223372036854775807 : Nat) && leN (List.length x4) (9223372036854775807 : Nat))]

def kw7 : List SV → List Entry → Option Out
  | [.one ⟨true, [.val (.int .i64 x0), .val (.int .i64 x1), .val (.int .i64 x2), .ref 0, .ref 1]⟩, .one ⟨true, [.val (.int .i64 x3), .ref 2, .ref 3, .ref 4, .ref 5]⟩], [.row false 178 (.pair (.int .i64) (.pair (.str) (.int .i64))) x4, .row false 150 (.pair (.int .i64) (.int .i64)) x5, .row false 2 (.int .i64) x6, .row false 2 (.int .i64) x7, .row false 2 (.int .i64) x8, .row false 172 (.pair (.int .i64) (.pair (.int .i64) (.int .i64))) x9] => some ⟨(.one ⟨false, [(.val (.bool (krp x0 x1 x2 x3 x4 x5 x6 x7 x8 x9)))]⟩), [(.row false 178 (CTy.pair (CTy.int IntKind.i64) (CTy.pair CTy.str (CTy.int IntKind.i64))) x4), (.row false 150 (CTy.pair (CTy.int IntKind.i64) (CTy.int IntKind.i64)) x5), (.row false 2 (CTy.int IntKind.i64) x6), (.row false 2 (CTy.int IntKind.i64) x7), (.row false 2 (CTy.int IntKind.i64) x8), (.row false 172 (CTy.pair (CTy.int IntKind.i64) (CTy.pair (CTy.int IntKind.i64) (CTy.int IntKind.i64))) x9)], [], [(ksb x0 x1 x2 x3 x4 x5 x6 x7 x8)]⟩
  | _, _ => none

def k130 : PF Tryz.prog := PF.ofG Tryz.prog [kw2, PF.lend kw2, PF.fz kw2, khu, kth, PF.lend kth, PF.fz kth, kdc, PF.lend kdc, PF.fz kdc] [] hmix 140 Tryz.f140 Tryz.func140 (fun c _ => LOk.nil c) kw7 (by
  intro vs es r h; unfold kw7 at h; split at h
  · cases h; kernel_rfl
  · cases h)

def k2m (x0 : Int) : Int :=
  IntKind.wrap IntKind.i64 (x0 - (1 : Int))

def k4z (x0 : Int) (x1 : Int) (x2 : Int) (x3 : Int) (x4 : List Int) (x8 : List (Int × ByteArray × Int)) (x9 : List (Int × Int)) : Bool :=
  bitsB
  (bif ltI (0 : Int) x0 then Option.getD (hgtL x1 x2 x3 x8 x9)[Int.toNat (k2m x0)]? (0 : Int)
  else (0 : Int))
  x4

def k8r (x0 : Int) (x1 : Int) (x2 : Int) (x3 : Int) (x4 : List Int) (x6 : List Int) (x8 : List (Int × ByteArray × Int)) (x9 : List (Int × Int)) : Bool :=
  bif k4z x0 x1 x2 x3 x4 x8 x9 then bitsB x3 x6 else false

def k9e (x0 : Int) (x1 : Int) (x2 : Int) (x3 : Int) (x4 : List Int) (x5 : List Int) (x6 : List Int) (x7 : List (Int × Int × Int)) (x8 : List (Int × ByteArray × Int)) (x9 : List (Int × Int)) : Bool :=
  bif !k3n x0 (0 : Int) (kv x9) then false
  else bif k8r x0 x1 x2 x3 x4 x6 x8 x9 then suitB x2 x8 x5 x7 else false

def k9c (x0 : Int) (x1 : Int) (x2 : Int) (x3 : Int) (x4 : List Int) (x5 : List Int) (x6 : List Int) (x8 : List (Int × ByteArray × Int)) (x9 : List (Int × Int)) : Bool :=
  allT
  [!k3n x0 (0 : Int) (kv x9) || rngC x1 x2 x3 x8 x9,
    !k3n x0 (0 : Int) (kv x9) ||
      (!ltI (0 : Int) x0 || leI (0 : Int) (k2m x0)),
    !k3n x0 (0 : Int) (kv x9) ||
      (!ltI (0 : Int) x0 || ltI (k2m x0) (↑(List.length (hgtL x1 x2 x3 x8 x9)) : Int)),
    !k3n x0 (0 : Int) (kv x9) ||
      (!ltI (0 : Int) x0 || ltN (Int.toNat (k2m x0)) (List.length (hgtL x1 x2 x3 x8 x9))),
    !k3n x0 (0 : Int) (kv x9) || leN (List.length x4) (9223372036854775807 : Nat),
    !k3n x0 (0 : Int) (kv x9) ||
      (!(k4z x0 x1 x2 x3 x4 x8 x9 && true) || leN (List.length x6) (9223372036854775807 : Nat)),
    !k3n x0 (0 : Int) (kv x9) ||
      (!(k8r x0 x1 x2 x3 x4 x6 x8 x9 && true) ||
        leN (List.length x5) (9223372036854775807 : Nat) && (leN (List.length x8) (9223372036854775807 : Nat) && blksB x8))]

def ke3 : List SV → List Entry → Option Out
  | [.one ⟨true, [.val (.int .i64 x0), .ref 0, .ref 1, .ref 2, .ref 3]⟩, .one ⟨true, [.val (.int .i64 x1), .val (.int .i64 x2), .val (.int .i64 x3), .ref 4, .ref 5]⟩], [.row false 2 (.int .i64) x4, .row false 2 (.int .i64) x5, .row false 2 (.int .i64) x6, .row false 172 (.pair (.int .i64) (.pair (.int .i64) (.int .i64))) x7, .row false 178 (.pair (.int .i64) (.pair (.str) (.int .i64))) x8, .row false 150 (.pair (.int .i64) (.int .i64)) x9] => some ⟨(.one ⟨false, [(.val (.bool (k9e x0 x1 x2 x3 x4 x5 x6 x7 x8 x9)))]⟩), [(.row false 2 (CTy.int IntKind.i64) x4), (.row false 2 (CTy.int IntKind.i64) x5), (.row false 2 (CTy.int IntKind.i64) x6), (.row false 172 (CTy.pair (CTy.int IntKind.i64) (CTy.pair (CTy.int IntKind.i64) (CTy.int IntKind.i64))) x7), (.row false 178 (CTy.pair (CTy.int IntKind.i64) (CTy.pair CTy.str (CTy.int IntKind.i64))) x8), (.row false 150 (CTy.pair (CTy.int IntKind.i64) (CTy.int IntKind.i64)) x9)], [], [(k9c x0 x1 x2 x3 x4 x5 x6 x8 x9)]⟩
  | _, _ => none

def kl7 : PF Tryz.prog := PF.ofG Tryz.prog [kbx, PF.lend kbx, PF.fz kbx, k2t, PF.lend k2t, PF.fz k2t, ksx, kc4, PF.lend kc4, PF.fz kc4, kdb, PF.lend kdb, PF.fz kdb] [] hmix 192 Tryz.f192 Tryz.func192 (fun c _ => LOk.nil c) ke3 (by
  intro vs es r h; unfold ke3 at h; split at h
  · cases h; kernel_rfl
  · cases h)

end Go.SX

namespace Go.SX
open Go.Proofs
set_option maxRecDepth 100000

theorem k16z {i v o : Int} {bs : List TM} {st : List IN} (h : codeB i v o bs st = true) : ((0 ≤ i ∧ i ≤ 20) ∧ (0 ≤ v ∧ v ≤ 20) ∧ (0 ≤ o ∧ o ≤ 20) ∧ bs.length ≤ 2000 ∧ st.length ≤ 2000) ∧ blksB bs = true ∧ hgtOk i v o bs st = true := by
  simp only [codeB, Bool.and_eq_true] at h
  exact ⟨kyf.1 h.1, h.2.1, h.2.2⟩

def listNd (l : List (List Int)) : Bool := leN l.length 9223372036854775807 && l.all fun x => leN x.length 9223372036854775807
def pNd (i v o : Int) (bs : List TM) (st : List IN) (stk xs os : List Int) : Bool := codeB i v o bs st && (leN stk.length 9223372036854775807 && (leN xs.length 9223372036854775807 && leN os.length 9223372036854775807))

theorem k170 {i v o : Int} {bs : List TM} {st : List IN} (h : hgtOk i v o bs st = true) : (hgtL i v o bs st).length = st.length := by
  simp only [hgtOk] at h
  unfold hgtL
  cases hh : hgt i v o bs st 0 [] with
  | none => rw [hh] at h; cases h
  | some r =>
    obtain ⟨m, out⟩ := r
    have := k17e _ _ _ _ _ hh
    simpa using this

theorem specPoss (i v o : Int) (bs : List TM) (st : List IN) (k : Int) (stk xs os : List Int) (ss : List BS3) (h : pNd i v o bs st stk xs os = true) :
    krp i v o k bs st stk xs os ss = mchB i v o bs st k stk xs os ss ∧ ksb i v o k bs st stk xs os = true := by
  simp only [pNd, Bool.and_eq_true] at h
  obtain ⟨hC, t1, t2, t3⟩ := h
  obtain ⟨⟨ri, rv, ro, rb, rs⟩, hB, hok⟩ := k16z hC
  have hlen := k170 hok
  have e1 : k8w k st = !inR k 0 st.length := by simp only [k8w, k1u, inR_eq]
  simp only [krp, ksb, e1, mchB, t1, t2, t3, allT, kql]
  cases hr : inR k 0 st.length with
  | false => simp
  | true =>
    obtain ⟨k0, k1⟩ := kux.1 hr
    have e2 : knm i v o k bs st stk = bitsB (hAt i v o bs st k) stk := by
      simp only [knm, hAt]
      by_cases hk : 0 < k
      · have hw : kgu k = k - 1 := wrap_i64 (by omega) (by omega)
        simp only [hw, atZ]
      · rw [ltI_f (by omega)]; rfl
    have n1 : leN st.length 2000 = true := leN_t rs
    have n2 : leN bs.length 2000 = true := leN_t rb
    have n3 : leN bs.length 9223372036854775807 = true := leN_t (by omega)
    rw [e2, n1, n2, n3, hlen]
    by_cases hk : 0 < k
    · have hw : kgu k = k - 1 := wrap_i64 (by omega) (by omega)
      have u1 : leI 0 (k - 1) = true := leI_t (by omega)
      have u2 : ltI (k - 1) (st.length : Int) = true := ltI_t (by omega)
      have u3 : ltN (k - 1).toNat st.length = true := ltN_t (by omega)
      rw [hw, u1, u2, u3]
      cases bitsB (hAt i v o bs st k) stk <;> cases bitsB o os <;> simp
    · rw [ltI_f (by omega)]
      cases bitsB (hAt i v o bs st k) stk <;> cases bitsB o os <;> simp

theorem implPoss (i v o : Int) (bs : List TM) (st : List IN) (k : Int) (stk xs os : List Int) (ss : List BS3) (h : pNd i v o bs st stk xs os = true) :
    k9e k i v o stk xs os ss bs st = mchB i v o bs st k stk xs os ss ∧ k9c k i v o stk xs os bs st = true := by
  simp only [pNd, Bool.and_eq_true] at h
  obtain ⟨hC, t1, t2, t3⟩ := h
  have hC2 := hC
  obtain ⟨⟨ri, rv, ro, rb, rs⟩, hB, hok⟩ := k16z hC
  simp only [codeB, Bool.and_eq_true] at hC2
  have hlen := k170 hok
  have e1 : k3n k 0 (kv st) = inR k 0 st.length := by simp only [k3n, inR_eq]; rfl
  simp only [k9e, k9c, e1, mchB, t1, t2, t3, hC2.1, hB, allT, k8r]
  cases hr : inR k 0 st.length with
  | false => simp
  | true =>
    obtain ⟨k0, k1⟩ := kux.1 hr
    have e2 : k4z k i v o stk bs st = bitsB (hAt i v o bs st k) stk := by
      simp only [k4z, hAt]
      by_cases hk : 0 < k
      · have hw : k2m k = k - 1 := wrap_i64 (by omega) (by omega)
        simp only [hw, atZ]
      · rw [ltI_f (by omega)]; rfl
    have n3 : leN bs.length 9223372036854775807 = true := leN_t (by omega)
    rw [e2, n3, hlen]
    by_cases hk : 0 < k
    · have hw : k2m k = k - 1 := wrap_i64 (by omega) (by omega)
      have u1 : leI 0 (k - 1) = true := leI_t (by omega)
      have u2 : ltI (k - 1) (st.length : Int) = true := ltI_t (by omega)
      have u3 : ltN (k - 1).toNat st.length = true := ltN_t (by omega)
      rw [hw, u1, u2, u3]
      cases bitsB (hAt i v o bs st k) stk <;> cases bitsB o os <;> simp
    · rw [ltI_f (by omega)]
      cases bitsB (hAt i v o bs st k) stk <;> cases bitsB o os <;> simp

def kwh : List SV → List Entry → Option Out
  | [.one ⟨true, [.val (.int .i64 x0), .val (.int .i64 x1), .val (.int .i64 x2), .ref 0, .ref 1]⟩, .one ⟨true, [.val (.int .i64 x3), .ref 2, .ref 3, .ref 4, .ref 5]⟩], [.row false 178 (.pair (.int .i64) (.pair (.str) (.int .i64))) x4, .row false 150 (.pair (.int .i64) (.int .i64)) x5, .row false 2 (.int .i64) x6, .row false 2 (.int .i64) x7, .row false 2 (.int .i64) x8, .row false 172 (.pair (.int .i64) (.pair (.int .i64) (.int .i64))) x9] => some ⟨(.one ⟨false, [(.val (.bool (mchB x0 x1 x2 x4 x5 x3 x6 x7 x8 x9)))]⟩), [(.row false 178 (CTy.pair (CTy.int IntKind.i64) (CTy.pair CTy.str (CTy.int IntKind.i64))) x4), (.row false 150 (CTy.pair (CTy.int IntKind.i64) (CTy.int IntKind.i64)) x5), (.row false 2 (CTy.int IntKind.i64) x6), (.row false 2 (CTy.int IntKind.i64) x7), (.row false 2 (CTy.int IntKind.i64) x8), (.row false 172 (CTy.pair (CTy.int IntKind.i64) (CTy.pair (CTy.int IntKind.i64) (CTy.int IntKind.i64))) x9)], [], [pNd x0 x1 x2 x4 x5 x6 x7 x8]⟩
  | _, _ => none

def krh : PF Tryz.prog := PF.alt k130 kwh (by
  intro args es o h hnd; unfold kwh at h; split at h
  · rename_i x0 x1 x2 x3 x4 x5 x6 x7 x8 x9
    cases h
    have hnd := nd_fst hnd
    have hh := specPoss x0 x1 x2 x4 x5 x3 x6 x7 x8 x9 hnd
    obtain ⟨e0, en⟩ := hh
    exact altok rfl (nd_one en) (by simp only [e0] <;> rfl) rfl rfl
  · cases h)

def ke5 : List SV → List Entry → Option Out
  | [.one ⟨true, [.val (.int .i64 x0), .ref 0, .ref 1, .ref 2, .ref 3]⟩, .one ⟨true, [.val (.int .i64 x1), .val (.int .i64 x2), .val (.int .i64 x3), .ref 4, .ref 5]⟩], [.row false 2 (.int .i64) x4, .row false 2 (.int .i64) x5, .row false 2 (.int .i64) x6, .row false 172 (.pair (.int .i64) (.pair (.int .i64) (.int .i64))) x7, .row false 178 (.pair (.int .i64) (.pair (.str) (.int .i64))) x8, .row false 150 (.pair (.int .i64) (.int .i64)) x9] => some ⟨(.one ⟨false, [(.val (.bool (mchB x1 x2 x3 x8 x9 x0 x4 x5 x6 x7)))]⟩), [(.row false 2 (CTy.int IntKind.i64) x4), (.row false 2 (CTy.int IntKind.i64) x5), (.row false 2 (CTy.int IntKind.i64) x6), (.row false 172 (CTy.pair (CTy.int IntKind.i64) (CTy.pair (CTy.int IntKind.i64) (CTy.int IntKind.i64))) x7), (.row false 178 (CTy.pair (CTy.int IntKind.i64) (CTy.pair CTy.str (CTy.int IntKind.i64))) x8), (.row false 150 (CTy.pair (CTy.int IntKind.i64) (CTy.int IntKind.i64)) x9)], [], [pNd x1 x2 x3 x8 x9 x4 x5 x6]⟩
  | _, _ => none

def k96 : PF Tryz.prog := PF.alt kl7 ke5 (by
  intro args es o h hnd; unfold ke5 at h; split at h
  · rename_i x0 x1 x2 x3 x4 x5 x6 x7 x8 x9
    cases h
    have hnd := nd_fst hnd
    have hh := implPoss x1 x2 x3 x8 x9 x0 x4 x5 x6 x7 hnd
    obtain ⟨e0, en⟩ := hh
    exact altok rfl (nd_one en) (by simp only [e0] <;> rfl) rfl rfl
  · cases h)

end Go.SX

namespace Go.SX
open Go.Proofs
set_option maxRecDepth 100000

def stM (bs : List TM) (st : List IN) (inp : List Int) (k : Int) (stk xs os : List Int) (ss : List BS3) : MS := stpM bs st inp (k, stk, xs, os, ss)
def stNd (i v o : Int) (bs : List TM) (st : List IN) (inp : List Int) (k : Int) (stk xs os : List Int) (ss : List BS3) : Bool := ltI k (st.length : Int) && runNd i v o bs st inp k stk xs os ss

theorem k16g {i v o : Int} {bs : List TM} {st : List IN} {inp : List Int} {k : Int} {stk xs os : List Int} {ss : List BS3} (h : stNd i v o bs st inp k stk xs os ss = true) :
    codeB i v o bs st = true ∧ bitsB i inp = true ∧ OkM i v o bs st k stk xs os ss ∧ k < st.length ∧ st[k.toNat]? = some (insAt st k) := by
  simp only [stNd, runNd, Bool.and_eq_true] at h
  obtain ⟨h0, hC, hin, hm⟩ := h
  have hm := mch_ok hC hm
  have hlt : k < st.length := ltI_iff.1 h0
  exact ⟨hC, hin, hm, hlt, (stp_ok (m := (k, stk, xs, os, ss)) hC hin hm hlt).2⟩

theorem implSt (i v o : Int) (bs : List TM) (st : List IN) (inp : List Int) (k : Int) (stk xs os : List Int) (ss : List BS3) (h : stNd i v o bs st inp k stk xs os ss = true) :
    k3s k st = (stM bs st inp k stk xs os ss).1 ∧ k3q k bs st stk xs = (stM bs st inp k stk xs os ss).2.2.1 ∧
    k3m k bs st inp stk xs os = (stM bs st inp k stk xs os ss).2.2.2.1 ∧ k3k k bs st stk ss = (stM bs st inp k stk xs os ss).2.2.2.2 ∧
    k3r k bs st inp stk xs ss = (stM bs st inp k stk xs os ss).2.1 ∧ ku k bs st inp stk xs os ss = true := by
  obtain ⟨hC, hin, hm, hlt, hx⟩ := k16g h
  obtain ⟨e0, e4, e1, e2, e3, e5⟩ := implStep hC hin hm hlt hx
  exact ⟨e0, e1, e2, e3, e4, e5⟩

theorem specSt (i v o : Int) (bs : List TM) (st : List IN) (inp : List Int) (k : Int) (stk xs os : List Int) (ss : List BS3) (h : stNd i v o bs st inp k stk xs os ss = true) :
    kog k st = (stM bs st inp k stk xs os ss).1 ∧ koq k bs st stk xs ss inp = (stM bs st inp k stk xs os ss).2.1 ∧ kr1 k bs st stk xs = (stM bs st inp k stk xs os ss).2.2.1 ∧
    kr7 k bs st stk xs os inp = (stM bs st inp k stk xs os ss).2.2.2.1 ∧ kr6 k bs st stk ss = (stM bs st inp k stk xs os ss).2.2.2.2 ∧ k9x k bs st stk xs os ss inp = true := by
  obtain ⟨hC, hin, hm, hlt, hx⟩ := k16g h
  exact specStep hC hin hm hlt hx

def kez : List SV → List Entry → Option Out
  | [.one ⟨false, [.ptr 0 0]⟩, .one ⟨true, [.val (.int .i64 x0), .val (.int .i64 x1), .val (.int .i64 x2), .ref 1, .ref 2]⟩, .one ⟨false, [.ref 3]⟩], [.box 77 [.val (.int .i64 x3), .ref 4, .ref 5, .ref 6, .ref 7], .row false 178 (.pair (.int .i64) (.pair .str (.int .i64))) x4, .row false 150 (.pair (.int .i64) (.int .i64)) x5, .row false 2 (.int .i64) x6, .row true 2 (.int .i64) x7, .row true 2 (.int .i64) x8, .row true 2 (.int .i64) x9, .row true 172 (.pair (.int .i64) (.pair (.int .i64) (.int .i64))) x10] => some ⟨(.tup []), [(.box 77 [(.val (.int IntKind.i64 ((stM x4 x5 x6 x3 x7 x8 x9 x10).1))), (.ref 8), (.ref 5), (.ref 6), (.ref 7)]), (.row false 178 (CTy.pair (CTy.int IntKind.i64) (CTy.pair CTy.str (CTy.int IntKind.i64))) x4), (.row false 150 (CTy.pair (CTy.int IntKind.i64) (CTy.int IntKind.i64)) x5), (.row false 2 (CTy.int IntKind.i64) x6), .gone, (.row true 2 (CTy.int IntKind.i64) ((stM x4 x5 x6 x3 x7 x8 x9 x10).2.2.1)), (.row true 2 (CTy.int IntKind.i64) ((stM x4 x5 x6 x3 x7 x8 x9 x10).2.2.2.1)), (.row true 172 (CTy.pair (CTy.int IntKind.i64) (CTy.pair (CTy.int IntKind.i64) (CTy.int IntKind.i64))) ((stM x4 x5 x6 x3 x7 x8 x9 x10).2.2.2.2))], [(.row true 2 (CTy.int IntKind.i64) ((stM x4 x5 x6 x3 x7 x8 x9 x10).2.1))], [stNd x0 x1 x2 x4 x5 x6 x3 x7 x8 x9 x10]⟩
  | _, _ => none

def kmo : PF Tryz.prog := PF.alt ka9 kez (by
  intro args es o h hnd; unfold kez at h; split at h
  · rename_i x0 x1 x2 x3 x4 x5 x6 x7 x8 x9 x10
    cases h
    have hnd := nd_fst hnd
    have hh := implSt x0 x1 x2 x4 x5 x6 x3 x7 x8 x9 x10 hnd
    obtain ⟨e0, e1, e2, e3, e4, en⟩ := hh
    exact altok rfl (nd_one en) rfl (by simp only [e0, e1, e2, e3] <;> rfl) (by simp only [e4] <;> rfl)
  · cases h)

def k11x : List SV → List Entry → Option Out
  | [.one ⟨true, [.val (.int .i64 x0), .val (.int .i64 x1), .val (.int .i64 x2), .ref 0, .ref 1]⟩, .one ⟨true, [.val (.int .i64 x3), .ref 2, .ref 3, .ref 4, .ref 5]⟩, .one ⟨false, [.ref 6]⟩], [.row false 178 (.pair (.int .i64) (.pair (.str) (.int .i64))) x4, .row false 150 (.pair (.int .i64) (.int .i64)) x5, .row false 2 (.int .i64) x6, .row false 2 (.int .i64) x7, .row false 2 (.int .i64) x8, .row false 172 (.pair (.int .i64) (.pair (.int .i64) (.int .i64))) x9, .row false 2 (.int .i64) x10] => some ⟨(.one ⟨true, [(.val (.int IntKind.i64 ((stM x4 x5 x10 x3 x6 x7 x8 x9).1))), (.ref 7), (.ref 8), (.ref 9), (.ref 10)]⟩), [(.row false 178 (CTy.pair (CTy.int IntKind.i64) (CTy.pair CTy.str (CTy.int IntKind.i64))) x4), (.row false 150 (CTy.pair (CTy.int IntKind.i64) (CTy.int IntKind.i64)) x5), (.row false 2 (CTy.int IntKind.i64) x6), (.row false 2 (CTy.int IntKind.i64) x7), (.row false 2 (CTy.int IntKind.i64) x8), (.row false 172 (CTy.pair (CTy.int IntKind.i64) (CTy.pair (CTy.int IntKind.i64) (CTy.int IntKind.i64))) x9), (.row false 2 (CTy.int IntKind.i64) x10)], [(.row false 2 (CTy.int IntKind.i64) ((stM x4 x5 x10 x3 x6 x7 x8 x9).2.1)), (.row false 2 (CTy.int IntKind.i64) ((stM x4 x5 x10 x3 x6 x7 x8 x9).2.2.1)), (.row false 2 (CTy.int IntKind.i64) ((stM x4 x5 x10 x3 x6 x7 x8 x9).2.2.2.1)), (.row false 172 (CTy.pair (CTy.int IntKind.i64) (CTy.pair (CTy.int IntKind.i64) (CTy.int IntKind.i64))) ((stM x4 x5 x10 x3 x6 x7 x8 x9).2.2.2.2))], [stNd x0 x1 x2 x4 x5 x10 x3 x6 x7 x8 x9]⟩
  | _, _ => none

def kxb : PF Tryz.prog := PF.alt klq k11x (by
  intro args es o h hnd; unfold k11x at h; split at h
  · rename_i x0 x1 x2 x3 x4 x5 x6 x7 x8 x9 x10
    cases h
    have hnd := nd_fst hnd
    have hh := specSt x0 x1 x2 x4 x5 x10 x3 x6 x7 x8 x9 hnd
    obtain ⟨e0, e1, e2, e3, e4, en⟩ := hh
    exact altok rfl (nd_one en) (by simp only [e0] <;> rfl) rfl (by simp only [e1, e2, e3, e4] <;> rfl)
  · cases h)

end Go.SX

namespace Go.SX
open Go.Proofs
set_option maxRecDepth 100000

def kli (x0 : Int) (x1 : Int) (x2 : Int) (x3 : Int) (x4 : List (Int × ByteArray × Int)) (x5 : List (Int × Int)) (x6 : List Int) (x7 : List Int) (x8 : List Int) (x9 : List (Int × Int × Int)) (x10 : List Int) : Int :=
  bif !codeB x0 x1 x2 x4 x5 then (1 : Int) else bif bif !mchB x0 x1 x2 x4 x5 x3 x6 x7 x8 x9 then true else !bitsB x0 x10 then (2 : Int) else (0 : Int)

def kqm (x0 : Int) (x1 : Int) (x2 : Int) (x3 : Int) (x4 : List (Int × ByteArray × Int)) (x5 : List (Int × Int)) (x6 : List Int) (x7 : List Int) (x8 : List Int) (x9 : List (Int × Int × Int)) (x10 : List Int) : Bool :=
  allT
  [tsOk x4, !codeB x0 x1 x2 x4 x5 || pNd x0 x1 x2 x4 x5 x6 x7 x8,
    !codeB x0 x1 x2 x4 x5 || (!(!!mchB x0 x1 x2 x4 x5 x3 x6 x7 x8 x9 && true) || leN (List.length x10) (9223372036854775807 : Nat))]

def k11v : List SV → List Entry → Option Out
  | [.one ⟨true, [.val (.int .i64 x0), .val (.int .i64 x1), .val (.int .i64 x2), .ref 0, .ref 1]⟩, .one ⟨true, [.val (.int .i64 x3), .ref 2, .ref 3, .ref 4, .ref 5]⟩, .one ⟨false, [.ref 6]⟩], [.row false 178 (.pair (.int .i64) (.pair (.str) (.int .i64))) x4, .row false 150 (.pair (.int .i64) (.int .i64)) x5, .row false 2 (.int .i64) x6, .row false 2 (.int .i64) x7, .row false 2 (.int .i64) x8, .row false 172 (.pair (.int .i64) (.pair (.int .i64) (.int .i64))) x9, .row false 2 (.int .i64) x10] => some ⟨(.one ⟨false, [(.val (.int IntKind.i64 (kli x0 x1 x2 x3 x4 x5 x6 x7 x8 x9 x10)))]⟩), [(.row false 178 (CTy.pair (CTy.int IntKind.i64) (CTy.pair CTy.str (CTy.int IntKind.i64))) x4), (.row false 150 (CTy.pair (CTy.int IntKind.i64) (CTy.int IntKind.i64)) x5), (.row false 2 (CTy.int IntKind.i64) x6), (.row false 2 (CTy.int IntKind.i64) x7), (.row false 2 (CTy.int IntKind.i64) x8), (.row false 172 (CTy.pair (CTy.int IntKind.i64) (CTy.pair (CTy.int IntKind.i64) (CTy.int IntKind.i64))) x9), (.row false 2 (CTy.int IntKind.i64) x10)], [], [(kqm x0 x1 x2 x3 x4 x5 x6 x7 x8 x9 x10)]⟩
  | _, _ => none

def kop : PF Tryz.prog := PF.ofG Tryz.prog [krh, PF.lend krh, PF.fz krh, kyn, PF.lend kyn, PF.fz kyn, kdc, PF.lend kdc, PF.fz kdc] [] hmix 121 Tryz.f121 Tryz.func121 (fun c _ => LOk.nil c) k11v (by
  intro vs es r h; unfold k11v at h; split at h
  · cases h; kernel_rfl
  · cases h)

def knk (x0 : Int) (x1 : Int) (x2 : Int) (x3 : Int) (x4 : List (Int × ByteArray × Int)) (x5 : List (Int × Int)) (x6 : List Int) (x7 : List Int) (x8 : List Int) (x9 : List (Int × Int × Int)) (x10 : List Int) : Int :=
  bif bif kli x0 x1 x2 x3 x4 x5 x6 x7 x8 x9 x10 == (0 : Int) then x3 == (↑(List.length x5) : Int) else false then (5 : Int)
  else kli x0 x1 x2 x3 x4 x5 x6 x7 x8 x9 x10

def kch (x0 : Int) (x1 : Int) (x2 : Int) (x3 : Int) (x4 : List (Int × ByteArray × Int)) (x5 : List (Int × Int)) (x6 : List Int) (x7 : List Int) (x8 : List Int) (x9 : List (Int × Int × Int)) (x10 : List Int) : Bool :=
  knk x0 x1 x2 x3 x4 x5 x6 x7 x8 x9 x10 != (0 : Int)

def kro (x0 : Int) (x1 : Int) (x2 : Int) (x3 : Int) (x4 : List (Int × ByteArray × Int)) (x5 : List (Int × Int)) (x6 : List Int) (x7 : List Int) (x8 : List Int) (x9 : List (Int × Int × Int)) (x10 : List Int) : Int :=
  bif kch x0 x1 x2 x3 x4 x5 x6 x7 x8 x9 x10 then (0 : Int) else Prod.fst (stM x4 x5 x10 x3 x6 x7 x8 x9)

def kse (x0 : Int) (x1 : Int) (x2 : Int) (x3 : Int) (x4 : List (Int × ByteArray × Int)) (x5 : List (Int × Int)) (x6 : List Int) (x7 : List Int) (x8 : List Int) (x9 : List (Int × Int × Int)) (x10 : List Int) : Int :=
  bif kch x0 x1 x2 x3 x4 x5 x6 x7 x8 x9 x10 then knk x0 x1 x2 x3 x4 x5 x6 x7 x8 x9 x10 else (0 : Int)

def krq (x0 : Int) (x1 : Int) (x2 : Int) (x3 : Int) (x4 : List (Int × ByteArray × Int)) (x5 : List (Int × Int)) (x6 : List Int) (x7 : List Int) (x8 : List Int) (x9 : List (Int × Int × Int)) (x10 : List Int) : List Int :=
  bif kch x0 x1 x2 x3 x4 x5 x6 x7 x8 x9 x10 then [] else Prod.fst (Prod.snd (stM x4 x5 x10 x3 x6 x7 x8 x9))

def krm (x0 : Int) (x1 : Int) (x2 : Int) (x3 : Int) (x4 : List (Int × ByteArray × Int)) (x5 : List (Int × Int)) (x6 : List Int) (x7 : List Int) (x8 : List Int) (x9 : List (Int × Int × Int)) (x10 : List Int) : List Int :=
  bif kch x0 x1 x2 x3 x4 x5 x6 x7 x8 x9 x10 then [] else Prod.fst (Prod.snd (Prod.snd (stM x4 x5 x10 x3 x6 x7 x8 x9)))

def krf (x0 : Int) (x1 : Int) (x2 : Int) (x3 : Int) (x4 : List (Int × ByteArray × Int)) (x5 : List (Int × Int)) (x6 : List Int) (x7 : List Int) (x8 : List Int) (x9 : List (Int × Int × Int)) (x10 : List Int) : List Int :=
  bif kch x0 x1 x2 x3 x4 x5 x6 x7 x8 x9 x10 then [] else Prod.fst (Prod.snd (Prod.snd (Prod.snd (stM x4 x5 x10 x3 x6 x7 x8 x9))))

def krz (x0 : Int) (x1 : Int) (x2 : Int) (x3 : Int) (x4 : List (Int × ByteArray × Int)) (x5 : List (Int × Int)) (x6 : List Int) (x7 : List Int) (x8 : List Int) (x9 : List (Int × Int × Int)) (x10 : List Int) : List (Int × (Int × Int)) :=
  bif kch x0 x1 x2 x3 x4 x5 x6 x7 x8 x9 x10 then [] else Prod.snd (Prod.snd (Prod.snd (Prod.snd (stM x4 x5 x10 x3 x6 x7 x8 x9))))

def krx (x0 : Int) (x1 : Int) (x2 : Int) (x3 : Int) (x4 : List (Int × ByteArray × Int)) (x5 : List (Int × Int)) (x6 : List Int) (x7 : List Int) (x8 : List Int) (x9 : List (Int × Int × Int)) (x10 : List Int) : Bool :=
  allT
  [kqm x0 x1 x2 x3 x4 x5 x6 x7 x8 x9 x10, kch x0 x1 x2 x3 x4 x5 x6 x7 x8 x9 x10 || stNd x0 x1 x2 x4 x5 x10 x3 x6 x7 x8 x9]

def kwv : List SV → List Entry → Option Out
  | [.one ⟨true, [.val (.int .i64 x0), .val (.int .i64 x1), .val (.int .i64 x2), .ref 0, .ref 1]⟩, .one ⟨true, [.val (.int .i64 x3), .ref 2, .ref 3, .ref 4, .ref 5]⟩, .one ⟨false, [.ref 6]⟩], [.row false 178 (.pair (.int .i64) (.pair (.str) (.int .i64))) x4, .row false 150 (.pair (.int .i64) (.int .i64)) x5, .row false 2 (.int .i64) x6, .row false 2 (.int .i64) x7, .row false 2 (.int .i64) x8, .row false 172 (.pair (.int .i64) (.pair (.int .i64) (.int .i64))) x9, .row false 2 (.int .i64) x10] => some ⟨(.tup [⟨true, [(.val (.int IntKind.i64 (kro x0 x1 x2 x3 x4 x5 x6 x7 x8 x9 x10))), (.ref 7), (.ref 8), (.ref 9), (.ref 10)]⟩, ⟨false, [(.val (.int IntKind.i64 (kse x0 x1 x2 x3 x4 x5 x6 x7 x8 x9 x10)))]⟩]), [(.row false 178 (CTy.pair (CTy.int IntKind.i64) (CTy.pair CTy.str (CTy.int IntKind.i64))) x4), (.row false 150 (CTy.pair (CTy.int IntKind.i64) (CTy.int IntKind.i64)) x5), (.row false 2 (CTy.int IntKind.i64) x6), (.row false 2 (CTy.int IntKind.i64) x7), (.row false 2 (CTy.int IntKind.i64) x8), (.row false 172 (CTy.pair (CTy.int IntKind.i64) (CTy.pair (CTy.int IntKind.i64) (CTy.int IntKind.i64))) x9), (.row false 2 (CTy.int IntKind.i64) x10)], [(.row false 2 (CTy.int IntKind.i64) (krq x0 x1 x2 x3 x4 x5 x6 x7 x8 x9 x10)), (.row false 2 (CTy.int IntKind.i64) (krm x0 x1 x2 x3 x4 x5 x6 x7 x8 x9 x10)), (.row false 2 (CTy.int IntKind.i64) (krf x0 x1 x2 x3 x4 x5 x6 x7 x8 x9 x10)), (.row false 172 (CTy.pair (CTy.int IntKind.i64) (CTy.pair (CTy.int IntKind.i64) (CTy.int IntKind.i64))) (krz x0 x1 x2 x3 x4 x5 x6 x7 x8 x9 x10))], [(krx x0 x1 x2 x3 x4 x5 x6 x7 x8 x9 x10)]⟩
  | _, _ => none

def k12g : PF Tryz.prog := PF.ofG Tryz.prog [kop, PF.lend kop, PF.fz kop, kxb, PF.lend kxb, PF.fz kxb] [] hmix 50 Tryz.f50 Tryz.func50 (fun c _ => LOk.nil c) kwv (by
  intro vs es r h; unfold kwv at h; split at h
  · cases h; kernel_rfl
  · cases h)

def kju (x0 : List Int) (x1 : Int) : Bool :=
  !bitsB x1 x0

def kjs (x0 : List Int) : Bool :=
  allT [leN (List.length x0) (9223372036854775807 : Nat)]

def kpi : List SV → List Entry → Option Out
  | [(.one ⟨false, [(.ref 0)]⟩), (.one ⟨false, [(.ptr 1 0)]⟩)], [(.row false 2 (CTy.int IntKind.i64) x0), (.box 34 [(.val (.int IntKind.i64 x1)), (.val (.int IntKind.i64 x2)), (.val (.int IntKind.i64 x3)), (.ref 2), (.ref 3)]), (.row false 178 (CTy.pair (CTy.int IntKind.i64) (CTy.pair CTy.str (CTy.int IntKind.i64))) x4), (.row false 150 (CTy.pair (CTy.int IntKind.i64) (CTy.int IntKind.i64)) x5)] => some ⟨(.one ⟨false, [(.val (.bool (kju x0 x1)))]⟩), [(.row false 2 (CTy.int IntKind.i64) x0), (.box 34 [(.val (.int IntKind.i64 x1)), (.val (.int IntKind.i64 x2)), (.val (.int IntKind.i64 x3)), (.ref 2), (.ref 3)]), (.row false 178 (CTy.pair (CTy.int IntKind.i64) (CTy.pair CTy.str (CTy.int IntKind.i64))) x4), (.row false 150 (CTy.pair (CTy.int IntKind.i64) (CTy.int IntKind.i64)) x5)], [], [(kjs x0)]⟩
  | _, _ => none

def kaq : PF Tryz.prog := PF.ofG Tryz.prog [kdb, PF.lend kdb, PF.fz kdb] [] hmix 193 Tryz.f193 Tryz.func193 (fun c _ => LOk.nil c) kpi (by
  intro vs es r h; unfold kpi at h; split at h
  · cases h; kernel_rfl
  · cases h)

abbrev k1r := Int × Int × Int × Int × Int × List (List Int) × List (Int × (ByteArray × Int)) × List (Int × Int)

def k26 (y0 : Int) (y5 : List (List Int)) : List Int :=
  Option.getD y5[Int.toNat y0]? (dflt (CTy.sl (2 : TypeId) (CTy.int IntKind.i64)))

def k4y (y0 : Int) (y1 : Int) : Bool :=
  ltI y0 y1

def k86 (y0 : Int) : Bool :=
  leI (0 : Int) y0

def k87 (y0 : Int) (y5 : List (List Int)) : Bool :=
  ltI y0 (↑(List.length y5) : Int)

def k84 (y0 : Int) (y5 : List (List Int)) : Bool :=
  ltN (Int.toNat y0) (List.length y5)

def k89 (y0 : Int) (y5 : List (List Int)) : Bool :=
  kjs (k26 y0 y5)

def k52 (y0 : Int) (y2 : Int) (y5 : List (List Int)) : Bool :=
  kju (k26 y0 y5) y2

def k80 (y0 : Int) : Int :=
  IntKind.wrap IntKind.i64 (y0 + (1 : Int))

def knr : k1r → List (Nat × SV)
  | (y0, y1, _, _, _, _, _, _) => [(8, (.one ⟨false, [(.val (.int IntKind.i64 y0))]⟩)), (7, (.one ⟨false, [(.val (.int IntKind.i64 y1))]⟩)), (1, (.one ⟨false, [(.clo 193 [0])]⟩)), (0, (.one ⟨false, [(.ref 1)]⟩))]

def ko4 : k1r → List (Nat × Entry)
  | (_, _, y2, y3, y4, y5, y6, y7) => [(0, (.box 34 [(.val (.int IntKind.i64 y2)), (.val (.int IntKind.i64 y3)), (.val (.int IntKind.i64 y4)), (.ref 2), (.ref 3)])), (1, (.row false 41 (CTy.sl (2 : TypeId) (CTy.int IntKind.i64)) y5)), (2, (.row false 178 (CTy.pair (CTy.int IntKind.i64) (CTy.pair CTy.str (CTy.int IntKind.i64))) y6)), (3, (.row false 150 (CTy.pair (CTy.int IntKind.i64) (CTy.int IntKind.i64)) y7))]

def knv : Nat → k1r → List (Nat × SV)
  | 0, (y0, _, _, _, _, _, _, _) => [(4, (.one ⟨false, [(.val (.int IntKind.i64 y0))]⟩))]
  | _, (_, _, _, _, _, _, _, _) => []

def ko6 : Nat → k1r → List (Nat × Entry)
  | 0, (_, _, y2, y3, y4, y5, y6, y7) => [(0, (.box 34 [(.val (.int IntKind.i64 y2)), (.val (.int IntKind.i64 y3)), (.val (.int IntKind.i64 y4)), (.ref 2), (.ref 3)])), (1, (.row false 41 (CTy.sl (2 : TypeId) (CTy.int IntKind.i64)) y5)), (2, (.row false 178 (CTy.pair (CTy.int IntKind.i64) (CTy.pair CTy.str (CTy.int IntKind.i64))) y6)), (3, (.row false 150 (CTy.pair (CTy.int IntKind.i64) (CTy.int IntKind.i64)) y7))]
  | _, (_, _, y2, y3, y4, y5, y6, y7) => [(0, (.box 34 [(.val (.int IntKind.i64 y2)), (.val (.int IntKind.i64 y3)), (.val (.int IntKind.i64 y4)), (.ref 2), (.ref 3)])), (1, (.row false 41 (CTy.sl (2 : TypeId) (CTy.int IntKind.i64)) y5)), (2, (.row false 178 (CTy.pair (CTy.int IntKind.i64) (CTy.pair CTy.str (CTy.int IntKind.i64))) y6)), (3, (.row false 150 (CTy.pair (CTy.int IntKind.i64) (CTy.int IntKind.i64)) y7))]

def k4n : k1r → LT k1r
  | (y0, y1, y2, y3, y4, y5, y6, y7) => .ite (k4y y0 y1) (.need [(k86 y0), (k87 y0 y5), (k84 y0 y5), (k89 y0 y5)] (.ite (k52 y0 y2 y5) (.ext 0 [(0, 0), (1, 1), (2, 2), (3, 3)]) (.nrm ((k80 y0), y1, y2, y3, y4, y5, y6, y7) [(0, 0), (1, 1), (2, 2), (3, 3)]))) (.ext 1 [(0, 0), (1, 1), (2, 2), (3, 3)])

def kbc (s : St) : Option k1r :=
  (match s.look 8 with
  | some ⟨none, (.one ⟨false, [(.val (.int IntKind.i64 y0))]⟩)⟩ =>
  (match s.look 7 with
  | some ⟨none, (.one ⟨false, [(.val (.int IntKind.i64 y1))]⟩)⟩ =>
  (match s.look 1 with
  | some ⟨none, (.one ⟨false, [(.clo 193 [1])]⟩)⟩ =>
  (match s.look 0 with
  | some ⟨none, (.one ⟨false, [(.ref 0)]⟩)⟩ =>
  (match s.ent 1 with
  | some (.box 34 [(.val (.int IntKind.i64 y2)), (.val (.int IntKind.i64 y3)), (.val (.int IntKind.i64 y4)), (.ref 2), (.ref 3)]) =>
  (match s.ent 0 with
  | some (.row false 41 (CTy.sl (2 : TypeId) (CTy.int IntKind.i64)) y5) =>
  (match s.ent 2 with
  | some (.row false 178 (CTy.pair (CTy.int IntKind.i64) (CTy.pair CTy.str (CTy.int IntKind.i64))) y6) =>
  (match s.ent 3 with
  | some (.row false 150 (CTy.pair (CTy.int IntKind.i64) (CTy.int IntKind.i64)) y7) =>
  some (y0, y1, y2, y3, y4, y5, y6, y7)
  | _ => none)
  | _ => none)
  | _ => none)
  | _ => none)
  | _ => none)
  | _ => none)
  | _ => none)
  | _ => none)

def k15 : Lp k1r where
  h := ⟨[9, 10, 5, 11, 12, 13, 14, 15, 16, 17, 4, 18, 8], [0, 1, 2, 3], [], []⟩
  JL := knr
  JE := ko4
  XL := knv
  XE := ko6
  q := fun j => match j with | 0 => .ret | _ => .exit 0
  tags := [0, 1]
  lt := k4n
  fuel := fun (y0, y1, y2, y3, y4, y5, y6, y7) => y0.natAbs + y1.natAbs + y2.natAbs + y3.natAbs + y4.natAbs + y5.length + y6.length + y7.length
  fix := fun (_, y1, y2, y3, y4, y5, y6, y7) (y0, _, _, _, _, _, _, _) => (y0, y1, y2, y3, y4, y5, y6, y7)
  σ := [(0, 1), (1, 0), (2, 2), (3, 3)]
  rd := kbc

theorem knf : LoopOk Tryz.prog (fun k => Nat.blt k Tryz.f217.ntmps) k15.F (loopAt Tryz.f217 0) := by
  refine Lp.ok (tbl := [kaq, PF.lend kaq, PF.fz kaq]) (lf := []) hmix k15 (by kernel_rfl) (LOk.nil _) (fun _ => rfl) (fun j _ => by unfold k15; match j with | 0 => rfl | _ + 1 => rfl) ?_ ?_ ?_ ?_ (fun _ => rfl) ?_
  · intro x; obtain ⟨y0, y1, y2, y3, y4, y5, y6, y7⟩ := x; kernel_rfl
  · intro x; obtain ⟨y0, y1, y2, y3, y4, y5, y6, y7⟩ := x; kernel_rfl
  · intro s x h
    have h : kbc s = some x := h
    unfold kbc at h
    repeat' split at h
    all_goals cases h
    exact ⟨absS_cons (by assumption) rfl (absS_cons (by assumption) rfl (absS_cons (by assumption) rfl (absS_cons (by assumption) rfl (rfl)))), absE_cons rfl (by assumption) rfl (absE_cons rfl (by assumption) rfl (absE_cons rfl (by assumption) rfl (absE_cons rfl (by assumption) rfl (rfl))))⟩
  · intro x; obtain ⟨y0, y1, y2, y3, y4, y5, y6, y7⟩ := x; kernel_rfl
  · intro x z; obtain ⟨y0, y1, y2, y3, y4, y5, y6, y7⟩ := x; exact (And.intro (And.intro trivial rfl) trivial)

def k90 (x0 : List (List Int)) (x1 : Int) (x2 : Int) (x3 : Int) (x4 : List (Int × ByteArray × Int)) (x5 : List (Int × Int)) : Int × Int × Int × Int × Int × List (List Int) × List (Int × ByteArray × Int) × List (Int × Int) :=
  ((0 : Int), (↑(List.length x0) : Int), x1, x2, x3, x0, x4, x5)

def k68 (x0 : List (List Int)) (x1 : Int) (x2 : Int) (x3 : Int) (x4 : List (Int × ByteArray × Int)) (x5 : List (Int × Int)) : Bool :=
  Nat.beq (Prod.fst (Lp.res k15 (k90 x0 x1 x2 x3 x4 x5))) (0 : Nat)

def kde (x0 : List (List Int)) (x1 : Int) (x2 : Int) (x3 : Int) (x4 : List (Int × ByteArray × Int)) (x5 : List (Int × Int)) : Int :=
  bif k68 x0 x1 x2 x3 x4 x5 then
  Prod.fst (Prod.snd (Lp.res k15 (k90 x0 x1 x2 x3 x4 x5)))
  else (-1 : Int)

def ki2 (x0 : List (List Int)) (x1 : Int) (x2 : Int) (x3 : Int) (x4 : List (Int × ByteArray × Int)) (x5 : List (Int × Int)) : Int :=
  bif k68 x0 x1 x2 x3 x4 x5 then x1 else x1

def kib (x0 : List (List Int)) (x1 : Int) (x2 : Int) (x3 : Int) (x4 : List (Int × ByteArray × Int)) (x5 : List (Int × Int)) : Int :=
  bif k68 x0 x1 x2 x3 x4 x5 then x2 else x2

def ki8 (x0 : List (List Int)) (x1 : Int) (x2 : Int) (x3 : Int) (x4 : List (Int × ByteArray × Int)) (x5 : List (Int × Int)) : Int :=
  bif k68 x0 x1 x2 x3 x4 x5 then x3 else x3

def kdi (x0 : List (List Int)) (x1 : Int) (x2 : Int) (x3 : Int) (x4 : List (Int × ByteArray × Int)) (x5 : List (Int × Int)) : Bool :=
  allT [Lp.fin k15 (k90 x0 x1 x2 x3 x4 x5)]

def khz : List SV → List Entry → Option Out
  | [(.one ⟨false, [(.ref 0)]⟩), (.one ⟨false, [(.clo 193 [1])]⟩)], [(.row false 41 (CTy.sl (2 : TypeId) (CTy.int IntKind.i64)) x0), (.box 34 [(.val (.int IntKind.i64 x1)), (.val (.int IntKind.i64 x2)), (.val (.int IntKind.i64 x3)), (.ref 2), (.ref 3)]), (.row false 178 (CTy.pair (CTy.int IntKind.i64) (CTy.pair CTy.str (CTy.int IntKind.i64))) x4), (.row false 150 (CTy.pair (CTy.int IntKind.i64) (CTy.int IntKind.i64)) x5)] => some ⟨(.one ⟨false, [(.val (.int IntKind.i64 (kde x0 x1 x2 x3 x4 x5)))]⟩), [(.row false 41 (CTy.sl (2 : TypeId) (CTy.int IntKind.i64)) x0), (.box 34 [(.val (.int IntKind.i64 (ki2 x0 x1 x2 x3 x4 x5))), (.val (.int IntKind.i64 (kib x0 x1 x2 x3 x4 x5))), (.val (.int IntKind.i64 (ki8 x0 x1 x2 x3 x4 x5))), (.ref 2), (.ref 3)]), (.row false 178 (CTy.pair (CTy.int IntKind.i64) (CTy.pair CTy.str (CTy.int IntKind.i64))) x4), (.row false 150 (CTy.pair (CTy.int IntKind.i64) (CTy.int IntKind.i64)) x5)], [], [(kdi x0 x1 x2 x3 x4 x5)]⟩
  | _, _ => none

def kdd : PF Tryz.prog := PF.ofG Tryz.prog [kaq, PF.lend kaq, PF.fz kaq] [k15.F] hmix 217 Tryz.f217 Tryz.func217 (LOk.fnT (l := [loopAt Tryz.f217 0]) (by kernel_rfl) (.cons knf (.nil _))) khz (by
  intro vs es r h; unfold khz at h; split at h
  · cases h; kernel_rfl
  · cases h)

def kc5 (x0 : List (List Int)) (x1 : Int) (x2 : Int) (x3 : Int) (x4 : List (Int × ByteArray × Int)) (x5 : List (Int × Int)) : Bool :=
  leI (0 : Int) (kde x0 x1 x2 x3 x4 x5)

def koj (x0 : List (List Int)) (x1 : Int) (x2 : Int) (x3 : Int) (x4 : List (Int × ByteArray × Int)) (x5 : List (Int × Int)) : Int :=
  ki2 x0 x1 x2 x3 x4 x5

def kon (x0 : List (List Int)) (x1 : Int) (x2 : Int) (x3 : Int) (x4 : List (Int × ByteArray × Int)) (x5 : List (Int × Int)) : Int :=
  kib x0 x1 x2 x3 x4 x5

def koh (x0 : List (List Int)) (x1 : Int) (x2 : Int) (x3 : Int) (x4 : List (Int × ByteArray × Int)) (x5 : List (Int × Int)) : Int :=
  ki8 x0 x1 x2 x3 x4 x5

def kby (x0 : List (List Int)) (x1 : Int) (x2 : Int) (x3 : Int) (x4 : List (Int × ByteArray × Int)) (x5 : List (Int × Int)) : Bool :=
  allT [kdi x0 x1 x2 x3 x4 x5]

def kgs : List SV → List Entry → Option Out
  | [(.one ⟨false, [(.ref 0)]⟩), (.one ⟨false, [(.clo 193 [1])]⟩)], [(.row false 41 (CTy.sl (2 : TypeId) (CTy.int IntKind.i64)) x0), (.box 34 [(.val (.int IntKind.i64 x1)), (.val (.int IntKind.i64 x2)), (.val (.int IntKind.i64 x3)), (.ref 2), (.ref 3)]), (.row false 178 (CTy.pair (CTy.int IntKind.i64) (CTy.pair CTy.str (CTy.int IntKind.i64))) x4), (.row false 150 (CTy.pair (CTy.int IntKind.i64) (CTy.int IntKind.i64)) x5)] => some ⟨(.one ⟨false, [(.val (.bool (kc5 x0 x1 x2 x3 x4 x5)))]⟩), [(.row false 41 (CTy.sl (2 : TypeId) (CTy.int IntKind.i64)) x0), (.box 34 [(.val (.int IntKind.i64 (koj x0 x1 x2 x3 x4 x5))), (.val (.int IntKind.i64 (kon x0 x1 x2 x3 x4 x5))), (.val (.int IntKind.i64 (koh x0 x1 x2 x3 x4 x5))), (.ref 2), (.ref 3)]), (.row false 178 (CTy.pair (CTy.int IntKind.i64) (CTy.pair CTy.str (CTy.int IntKind.i64))) x4), (.row false 150 (CTy.pair (CTy.int IntKind.i64) (CTy.int IntKind.i64)) x5)], [], [(kby x0 x1 x2 x3 x4 x5)]⟩
  | _, _ => none

def kc3 : PF Tryz.prog := PF.ofG Tryz.prog [kdd, PF.lend kdd, PF.fz kdd] [] hmix 163 Tryz.f163 Tryz.func163 (fun c _ => LOk.nil c) kgs (by
  intro vs es r h; unfold kgs at h; split at h
  · cases h; kernel_rfl
  · cases h)

def kl3 (x0 : Int) (x1 : Int) (x2 : Int) (x3 : Int) (x4 : List (Int × ByteArray × Int)) (x5 : List (Int × Int)) (x6 : List Int) (x7 : List Int) (x8 : List Int) (x9 : List (Int × Int × Int)) (x10 : List (List Int)) : Int :=
  bif !codeB x0 x1 x2 x4 x5 then (1 : Int)
  else
  bif bif !mchB x0 x1 x2 x4 x5 x3 x6 x7 x8 x9 then true else kc5 x10 x0 x1 x2 x4 x5 then (2 : Int) else (0 : Int)

def kkn (x0 : Int) (x1 : Int) (x2 : Int) (x3 : Int) (x4 : List (Int × ByteArray × Int)) (x5 : List (Int × Int)) (x6 : List Int) (x7 : List Int) (x8 : List Int) (x9 : List (Int × Int × Int)) (x10 : List (List Int)) : Bool :=
  allT
  [!codeB x0 x1 x2 x4 x5 || pNd x0 x1 x2 x4 x5 x6 x7 x8,
    !codeB x0 x1 x2 x4 x5 || (!(!!mchB x0 x1 x2 x4 x5 x3 x6 x7 x8 x9 && true) || kby x10 x0 x1 x2 x4 x5)]

def kwb : List SV → List Entry → Option Out
  | [.one ⟨true, [.val (.int .i64 x0), .val (.int .i64 x1), .val (.int .i64 x2), .ref 0, .ref 1]⟩, .one ⟨true, [.val (.int .i64 x3), .ref 2, .ref 3, .ref 4, .ref 5]⟩, .one ⟨false, [.ref 6]⟩], [.row false 178 (.pair (.int .i64) (.pair (.str) (.int .i64))) x4, .row false 150 (.pair (.int .i64) (.int .i64)) x5, .row false 2 (.int .i64) x6, .row false 2 (.int .i64) x7, .row false 2 (.int .i64) x8, .row false 172 (.pair (.int .i64) (.pair (.int .i64) (.int .i64))) x9, .row false 41 (.sl 2 (.int .i64)) x10] => some ⟨(.one ⟨false, [(.val (.int IntKind.i64 (kl3 x0 x1 x2 x3 x4 x5 x6 x7 x8 x9 x10)))]⟩), [(.row false 178 (CTy.pair (CTy.int IntKind.i64) (CTy.pair CTy.str (CTy.int IntKind.i64))) x4), (.row false 150 (CTy.pair (CTy.int IntKind.i64) (CTy.int IntKind.i64)) x5), (.row false 2 (CTy.int IntKind.i64) x6), (.row false 2 (CTy.int IntKind.i64) x7), (.row false 2 (CTy.int IntKind.i64) x8), (.row false 172 (CTy.pair (CTy.int IntKind.i64) (CTy.pair (CTy.int IntKind.i64) (CTy.int IntKind.i64))) x9), (.row false 41 (CTy.sl (2 : TypeId) (CTy.int IntKind.i64)) x10)], [], [(kkn x0 x1 x2 x3 x4 x5 x6 x7 x8 x9 x10)]⟩
  | _, _ => none

def khi : PF Tryz.prog := PF.ofG Tryz.prog [k96, PF.lend k96, PF.fz k96, kyo, PF.lend kyo, PF.fz kyo, kc3, PF.lend kc3, PF.fz kc3] [] hmix 123 Tryz.f123 Tryz.func123 (fun c _ => LOk.nil c) kwb (by
  intro vs es r h; unfold kwb at h; split at h
  · cases h; kernel_rfl
  · cases h)

def k4s (x1 : List Int) (x2 : List Int) (x3 : List Int) (x4 : List (Int × Int × Int)) : Bool :=
  allT
  [leN (List.length x1) (1048576 : Nat), leN (List.length x2) (1048576 : Nat), leN (List.length x3) (1048576 : Nat),
    leN (List.length x4) (1048576 : Nat)]

def kgh : List SV → List Entry → Option Out
  | [.one ⟨true, [.val (.int .i64 x0), .ref 0, .ref 1, .ref 2, .ref 3]⟩], [.row false 2 (.int .i64) x1, .row false 2 (.int .i64) x2, .row false 2 (.int .i64) x3, .row false 172 (.pair (.int .i64) (.pair (.int .i64) (.int .i64))) x4] => some ⟨(.one ⟨true, [(.val (.int IntKind.i64 x0)), (.ref 4), (.ref 5), (.ref 6), (.ref 7)]⟩), [(.row false 2 (CTy.int IntKind.i64) x1), (.row false 2 (CTy.int IntKind.i64) x2), (.row false 2 (CTy.int IntKind.i64) x3), (.row false 172 (CTy.pair (CTy.int IntKind.i64) (CTy.pair (CTy.int IntKind.i64) (CTy.int IntKind.i64))) x4)], [(.row true 2 (CTy.int IntKind.i64) x1), (.row true 2 (CTy.int IntKind.i64) x2), (.row true 2 (CTy.int IntKind.i64) x3), (.row true 172 (CTy.pair (CTy.int IntKind.i64) (CTy.pair (CTy.int IntKind.i64) (CTy.int IntKind.i64))) x4)], [(k4s x1 x2 x3 x4)]⟩
  | _, _ => none

def k39 : PF Tryz.prog := PF.ofG Tryz.prog [kak, PF.lend kak, PF.fz kak, kgz, PF.lend kgz, PF.fz kgz] [] hmix 125 Tryz.f125 Tryz.func125 (fun c _ => LOk.nil c) kgh (by
  intro vs es r h; unfold kgh at h; split at h
  · cases h; kernel_rfl
  · cases h)

def kr3 (x0 : Int) (x1 : Int) (x2 : Int) (x3 : Int) (x4 : List (Int × ByteArray × Int)) (x5 : List (Int × Int)) (x6 : List Int) (x7 : List Int) (x8 : List Int) (x9 : List (Int × Int × Int)) (x10 : List Int) : Int :=
  kl3 x0 x1 x2 x3 x4 x5 x6 x7 x8 x9 [x10]

def kaz (x0 : Int) (x1 : Int) (x2 : Int) (x3 : Int) (x4 : List (Int × ByteArray × Int)) (x5 : List (Int × Int)) (x6 : List Int) (x7 : List Int) (x8 : List Int) (x9 : List (Int × Int × Int)) (x10 : List Int) : Bool :=
  kr3 x0 x1 x2 x3 x4 x5 x6 x7 x8 x9 x10 != (0 : Int)

def krj (x0 : Int) (x1 : Int) (x2 : Int) (x3 : Int) (x4 : List (Int × ByteArray × Int)) (x5 : List (Int × Int)) (x6 : List Int) (x7 : List Int) (x8 : List Int) (x9 : List (Int × Int × Int)) (x10 : List Int) : Int :=
  bif kaz x0 x1 x2 x3 x4 x5 x6 x7 x8 x9 x10 then (0 : Int)
  else bif x3 == kv x5 then (0 : Int) else Prod.fst (stM x4 x5 x10 x3 x6 x7 x8 x9)

def krn (x0 : Int) (x1 : Int) (x2 : Int) (x3 : Int) (x4 : List (Int × ByteArray × Int)) (x5 : List (Int × Int)) (x6 : List Int) (x7 : List Int) (x8 : List Int) (x9 : List (Int × Int × Int)) (x10 : List Int) : Int :=
  bif kaz x0 x1 x2 x3 x4 x5 x6 x7 x8 x9 x10 then kr3 x0 x1 x2 x3 x4 x5 x6 x7 x8 x9 x10
  else bif x3 == kv x5 then (5 : Int) else (0 : Int)

def ksc (x0 : Int) (x1 : Int) (x2 : Int) (x3 : Int) (x4 : List (Int × ByteArray × Int)) (x5 : List (Int × Int)) (x6 : List Int) (x7 : List Int) (x8 : List Int) (x9 : List (Int × Int × Int)) (x10 : List Int) : List Int :=
  bif kaz x0 x1 x2 x3 x4 x5 x6 x7 x8 x9 x10 then []
  else bif x3 == kv x5 then [] else Prod.fst (Prod.snd (stM x4 x5 x10 x3 x6 x7 x8 x9))

def ks8 (x0 : Int) (x1 : Int) (x2 : Int) (x3 : Int) (x4 : List (Int × ByteArray × Int)) (x5 : List (Int × Int)) (x6 : List Int) (x7 : List Int) (x8 : List Int) (x9 : List (Int × Int × Int)) (x10 : List Int) : List Int :=
  bif kaz x0 x1 x2 x3 x4 x5 x6 x7 x8 x9 x10 then []
  else bif x3 == kv x5 then [] else Prod.fst (Prod.snd (Prod.snd (stM x4 x5 x10 x3 x6 x7 x8 x9)))

def ks5 (x0 : Int) (x1 : Int) (x2 : Int) (x3 : Int) (x4 : List (Int × ByteArray × Int)) (x5 : List (Int × Int)) (x6 : List Int) (x7 : List Int) (x8 : List Int) (x9 : List (Int × Int × Int)) (x10 : List Int) : List Int :=
  bif kaz x0 x1 x2 x3 x4 x5 x6 x7 x8 x9 x10 then []
  else bif x3 == kv x5 then [] else Prod.fst (Prod.snd (Prod.snd (Prod.snd (stM x4 x5 x10 x3 x6 x7 x8 x9))))

def krg (x0 : Int) (x1 : Int) (x2 : Int) (x3 : Int) (x4 : List (Int × ByteArray × Int)) (x5 : List (Int × Int)) (x6 : List Int) (x7 : List Int) (x8 : List Int) (x9 : List (Int × Int × Int)) (x10 : List Int) : List (Int × (Int × Int)) :=
  bif kaz x0 x1 x2 x3 x4 x5 x6 x7 x8 x9 x10 then []
  else bif x3 == kv x5 then [] else Prod.snd (Prod.snd (Prod.snd (Prod.snd (stM x4 x5 x10 x3 x6 x7 x8 x9))))

def krk (x0 : Int) (x1 : Int) (x2 : Int) (x3 : Int) (x4 : List (Int × ByteArray × Int)) (x5 : List (Int × Int)) (x6 : List Int) (x7 : List Int) (x8 : List Int) (x9 : List (Int × Int × Int)) (x10 : List Int) : Bool :=
  allT
  [kkn x0 x1 x2 x3 x4 x5 x6 x7 x8 x9 [x10],
    kaz x0 x1 x2 x3 x4 x5 x6 x7 x8 x9 x10 ||
      (x3 == kv x5 || k4s x6 x7 x8 x9),
    kaz x0 x1 x2 x3 x4 x5 x6 x7 x8 x9 x10 || (x3 == kv x5 || stNd x0 x1 x2 x4 x5 x10 x3 x6 x7 x8 x9)]

def kwj : List SV → List Entry → Option Out
  | [.one ⟨true, [.val (.int .i64 x0), .val (.int .i64 x1), .val (.int .i64 x2), .ref 0, .ref 1]⟩, .one ⟨true, [.val (.int .i64 x3), .ref 2, .ref 3, .ref 4, .ref 5]⟩, .one ⟨false, [.ref 6]⟩], [.row false 178 (.pair (.int .i64) (.pair (.str) (.int .i64))) x4, .row false 150 (.pair (.int .i64) (.int .i64)) x5, .row false 2 (.int .i64) x6, .row false 2 (.int .i64) x7, .row false 2 (.int .i64) x8, .row false 172 (.pair (.int .i64) (.pair (.int .i64) (.int .i64))) x9, .row false 2 (.int .i64) x10] => some ⟨(.tup [⟨true, [(.val (.int IntKind.i64 (krj x0 x1 x2 x3 x4 x5 x6 x7 x8 x9 x10))), (.ref 7), (.ref 8), (.ref 9), (.ref 10)]⟩, ⟨false, [(.val (.int IntKind.i64 (krn x0 x1 x2 x3 x4 x5 x6 x7 x8 x9 x10)))]⟩]), [(.row false 178 (CTy.pair (CTy.int IntKind.i64) (CTy.pair CTy.str (CTy.int IntKind.i64))) x4), (.row false 150 (CTy.pair (CTy.int IntKind.i64) (CTy.int IntKind.i64)) x5), (.row false 2 (CTy.int IntKind.i64) x6), (.row false 2 (CTy.int IntKind.i64) x7), (.row false 2 (CTy.int IntKind.i64) x8), (.row false 172 (CTy.pair (CTy.int IntKind.i64) (CTy.pair (CTy.int IntKind.i64) (CTy.int IntKind.i64))) x9), (.row false 2 (CTy.int IntKind.i64) x10)], [(.row true 2 (CTy.int IntKind.i64) (ksc x0 x1 x2 x3 x4 x5 x6 x7 x8 x9 x10)), (.row true 2 (CTy.int IntKind.i64) (ks8 x0 x1 x2 x3 x4 x5 x6 x7 x8 x9 x10)), (.row true 2 (CTy.int IntKind.i64) (ks5 x0 x1 x2 x3 x4 x5 x6 x7 x8 x9 x10)), (.row true 172 (CTy.pair (CTy.int IntKind.i64) (CTy.pair (CTy.int IntKind.i64) (CTy.int IntKind.i64))) (krg x0 x1 x2 x3 x4 x5 x6 x7 x8 x9 x10))], [(krk x0 x1 x2 x3 x4 x5 x6 x7 x8 x9 x10)]⟩
  | _, _ => none

def k12c : PF Tryz.prog := PF.ofG Tryz.prog [kmo, khi, PF.lend khi, PF.fz khi, k2t, PF.lend k2t, PF.fz k2t, k39, PF.lend k39, PF.fz k39] [] hmix 52 Tryz.f52 Tryz.func52 (fun c _ => LOk.nil c) kwj (by
  intro vs es r h; unfold kwj at h; split at h
  · cases h; kernel_rfl
  · cases h)

def kas (x0 : Int) (x1 : Int) (x2 : Int) (x3 : Int) (x4 : List (Int × ByteArray × Int)) (x5 : List (Int × Int)) (x6 : List Int) (x7 : List Int) (x8 : List Int) (x9 : List (Int × Int × Int)) (x10 : List Int) : Bool :=
  kli x0 x1 x2 x3 x4 x5 x6 x7 x8 x9 x10 != (0 : Int)

def kpq (x0 : Int) (x1 : Int) (x2 : Int) (x3 : Int) (x4 : List (Int × ByteArray × Int)) (x5 : List (Int × Int)) (x6 : List Int) (x7 : List Int) (x8 : List Int) (x9 : List (Int × Int × Int)) (x10 : List Int) : Int :=
  bif kas x0 x1 x2 x3 x4 x5 x6 x7 x8 x9 x10 then (0 : Int) else Prod.fst (fnM x4 x5 x10 x3 x6 x7 x8 x9)

def kpy (x0 : Int) (x1 : Int) (x2 : Int) (x3 : Int) (x4 : List (Int × ByteArray × Int)) (x5 : List (Int × Int)) (x6 : List Int) (x7 : List Int) (x8 : List Int) (x9 : List (Int × Int × Int)) (x10 : List Int) : Int :=
  bif kas x0 x1 x2 x3 x4 x5 x6 x7 x8 x9 x10 then kli x0 x1 x2 x3 x4 x5 x6 x7 x8 x9 x10 else (0 : Int)

def kqc (x0 : Int) (x1 : Int) (x2 : Int) (x3 : Int) (x4 : List (Int × ByteArray × Int)) (x5 : List (Int × Int)) (x6 : List Int) (x7 : List Int) (x8 : List Int) (x9 : List (Int × Int × Int)) (x10 : List Int) : List Int :=
  bif kas x0 x1 x2 x3 x4 x5 x6 x7 x8 x9 x10 then [] else Prod.fst (Prod.snd (fnM x4 x5 x10 x3 x6 x7 x8 x9))

def kpr (x0 : Int) (x1 : Int) (x2 : Int) (x3 : Int) (x4 : List (Int × ByteArray × Int)) (x5 : List (Int × Int)) (x6 : List Int) (x7 : List Int) (x8 : List Int) (x9 : List (Int × Int × Int)) (x10 : List Int) : List Int :=
  bif kas x0 x1 x2 x3 x4 x5 x6 x7 x8 x9 x10 then [] else Prod.fst (Prod.snd (Prod.snd (fnM x4 x5 x10 x3 x6 x7 x8 x9)))

def kq9 (x0 : Int) (x1 : Int) (x2 : Int) (x3 : Int) (x4 : List (Int × ByteArray × Int)) (x5 : List (Int × Int)) (x6 : List Int) (x7 : List Int) (x8 : List Int) (x9 : List (Int × Int × Int)) (x10 : List Int) : List Int :=
  bif kas x0 x1 x2 x3 x4 x5 x6 x7 x8 x9 x10 then [] else Prod.fst (Prod.snd (Prod.snd (Prod.snd (fnM x4 x5 x10 x3 x6 x7 x8 x9))))

def kqd (x0 : Int) (x1 : Int) (x2 : Int) (x3 : Int) (x4 : List (Int × ByteArray × Int)) (x5 : List (Int × Int)) (x6 : List Int) (x7 : List Int) (x8 : List Int) (x9 : List (Int × Int × Int)) (x10 : List Int) : List (Int × (Int × Int)) :=
  bif kas x0 x1 x2 x3 x4 x5 x6 x7 x8 x9 x10 then [] else Prod.snd (Prod.snd (Prod.snd (Prod.snd (fnM x4 x5 x10 x3 x6 x7 x8 x9))))

def kq5 (x0 : Int) (x1 : Int) (x2 : Int) (x3 : Int) (x4 : List (Int × ByteArray × Int)) (x5 : List (Int × Int)) (x6 : List Int) (x7 : List Int) (x8 : List Int) (x9 : List (Int × Int × Int)) (x10 : List Int) : Bool :=
  allT
  [kqm x0 x1 x2 x3 x4 x5 x6 x7 x8 x9 x10,
    kas x0 x1 x2 x3 x4 x5 x6 x7 x8 x9 x10 || runNd x0 x1 x2 x4 x5 x10 x3 x6 x7 x8 x9]

def kuz : List SV → List Entry → Option Out
  | [.one ⟨true, [.val (.int .i64 x0), .val (.int .i64 x1), .val (.int .i64 x2), .ref 0, .ref 1]⟩, .one ⟨true, [.val (.int .i64 x3), .ref 2, .ref 3, .ref 4, .ref 5]⟩, .one ⟨false, [.ref 6]⟩], [.row false 178 (.pair (.int .i64) (.pair (.str) (.int .i64))) x4, .row false 150 (.pair (.int .i64) (.int .i64)) x5, .row false 2 (.int .i64) x6, .row false 2 (.int .i64) x7, .row false 2 (.int .i64) x8, .row false 172 (.pair (.int .i64) (.pair (.int .i64) (.int .i64))) x9, .row false 2 (.int .i64) x10] => some ⟨(.tup [⟨true, [(.val (.int IntKind.i64 (kpq x0 x1 x2 x3 x4 x5 x6 x7 x8 x9 x10))), (.ref 7), (.ref 8), (.ref 9), (.ref 10)]⟩, ⟨false, [(.val (.int IntKind.i64 (kpy x0 x1 x2 x3 x4 x5 x6 x7 x8 x9 x10)))]⟩]), [(.row false 178 (CTy.pair (CTy.int IntKind.i64) (CTy.pair CTy.str (CTy.int IntKind.i64))) x4), (.row false 150 (CTy.pair (CTy.int IntKind.i64) (CTy.int IntKind.i64)) x5), (.row false 2 (CTy.int IntKind.i64) x6), (.row false 2 (CTy.int IntKind.i64) x7), (.row false 2 (CTy.int IntKind.i64) x8), (.row false 172 (CTy.pair (CTy.int IntKind.i64) (CTy.pair (CTy.int IntKind.i64) (CTy.int IntKind.i64))) x9), (.row false 2 (CTy.int IntKind.i64) x10)], [(.row false 2 (CTy.int IntKind.i64) (kqc x0 x1 x2 x3 x4 x5 x6 x7 x8 x9 x10)), (.row false 2 (CTy.int IntKind.i64) (kpr x0 x1 x2 x3 x4 x5 x6 x7 x8 x9 x10)), (.row false 2 (CTy.int IntKind.i64) (kq9 x0 x1 x2 x3 x4 x5 x6 x7 x8 x9 x10)), (.row false 172 (CTy.pair (CTy.int IntKind.i64) (CTy.pair (CTy.int IntKind.i64) (CTy.int IntKind.i64))) (kqd x0 x1 x2 x3 x4 x5 x6 x7 x8 x9 x10))], [(kq5 x0 x1 x2 x3 x4 x5 x6 x7 x8 x9 x10)]⟩
  | _, _ => none

def k10l : PF Tryz.prog := PF.ofG Tryz.prog [kop, PF.lend kop, PF.fz kop, kue, PF.lend kue, PF.fz kue] [] hmix 56 Tryz.f56 Tryz.func56 (fun c _ => LOk.nil c) kuz (by
  intro vs es r h; unfold kuz at h; split at h
  · cases h; kernel_rfl
  · cases h)

def kp0 (x0 : Int) (x1 : Int) (x2 : Int) (x3 : Int) (x4 : List (Int × ByteArray × Int)) (x5 : List (Int × Int)) (x6 : List Int) (x7 : List Int) (x8 : List Int) (x9 : List (Int × Int × Int)) (x10 : List Int) : Int :=
  kl3 x0 x1 x2 x3 x4 x5 x6 x7 x8 x9 [x10]

def k8c (x0 : Int) (x1 : Int) (x2 : Int) (x3 : Int) (x4 : List (Int × ByteArray × Int)) (x5 : List (Int × Int)) (x6 : List Int) (x7 : List Int) (x8 : List Int) (x9 : List (Int × Int × Int)) (x10 : List Int) : Bool :=
  kp0 x0 x1 x2 x3 x4 x5 x6 x7 x8 x9 x10 != (0 : Int)

def kpx (x0 : Int) (x1 : Int) (x2 : Int) (x3 : Int) (x4 : List (Int × ByteArray × Int)) (x5 : List (Int × Int)) (x6 : List Int) (x7 : List Int) (x8 : List Int) (x9 : List (Int × Int × Int)) (x10 : List Int) : Int :=
  bif k8c x0 x1 x2 x3 x4 x5 x6 x7 x8 x9 x10 then (0 : Int) else Prod.fst (fnM x4 x5 x10 x3 x6 x7 x8 x9)

def kq8 (x0 : Int) (x1 : Int) (x2 : Int) (x3 : Int) (x4 : List (Int × ByteArray × Int)) (x5 : List (Int × Int)) (x6 : List Int) (x7 : List Int) (x8 : List Int) (x9 : List (Int × Int × Int)) (x10 : List Int) : Int :=
  bif k8c x0 x1 x2 x3 x4 x5 x6 x7 x8 x9 x10 then kp0 x0 x1 x2 x3 x4 x5 x6 x7 x8 x9 x10 else (0 : Int)

def kqb (x0 : Int) (x1 : Int) (x2 : Int) (x3 : Int) (x4 : List (Int × ByteArray × Int)) (x5 : List (Int × Int)) (x6 : List Int) (x7 : List Int) (x8 : List Int) (x9 : List (Int × Int × Int)) (x10 : List Int) : List Int :=
  bif k8c x0 x1 x2 x3 x4 x5 x6 x7 x8 x9 x10 then [] else Prod.fst (Prod.snd (fnM x4 x5 x10 x3 x6 x7 x8 x9))

def kq0 (x0 : Int) (x1 : Int) (x2 : Int) (x3 : Int) (x4 : List (Int × ByteArray × Int)) (x5 : List (Int × Int)) (x6 : List Int) (x7 : List Int) (x8 : List Int) (x9 : List (Int × Int × Int)) (x10 : List Int) : List Int :=
  bif k8c x0 x1 x2 x3 x4 x5 x6 x7 x8 x9 x10 then [] else Prod.fst (Prod.snd (Prod.snd (fnM x4 x5 x10 x3 x6 x7 x8 x9)))

def kq2 (x0 : Int) (x1 : Int) (x2 : Int) (x3 : Int) (x4 : List (Int × ByteArray × Int)) (x5 : List (Int × Int)) (x6 : List Int) (x7 : List Int) (x8 : List Int) (x9 : List (Int × Int × Int)) (x10 : List Int) : List Int :=
  bif k8c x0 x1 x2 x3 x4 x5 x6 x7 x8 x9 x10 then [] else Prod.fst (Prod.snd (Prod.snd (Prod.snd (fnM x4 x5 x10 x3 x6 x7 x8 x9))))

def kq4 (x0 : Int) (x1 : Int) (x2 : Int) (x3 : Int) (x4 : List (Int × ByteArray × Int)) (x5 : List (Int × Int)) (x6 : List Int) (x7 : List Int) (x8 : List Int) (x9 : List (Int × Int × Int)) (x10 : List Int) : List (Int × (Int × Int)) :=
  bif k8c x0 x1 x2 x3 x4 x5 x6 x7 x8 x9 x10 then [] else Prod.snd (Prod.snd (Prod.snd (Prod.snd (fnM x4 x5 x10 x3 x6 x7 x8 x9))))

def kqa (x0 : Int) (x1 : Int) (x2 : Int) (x3 : Int) (x4 : List (Int × ByteArray × Int)) (x5 : List (Int × Int)) (x6 : List Int) (x7 : List Int) (x8 : List Int) (x9 : List (Int × Int × Int)) (x10 : List Int) : Bool :=
  allT
  [kkn x0 x1 x2 x3 x4 x5 x6 x7 x8 x9 [x10],
    k8c x0 x1 x2 x3 x4 x5 x6 x7 x8 x9 x10 || k4s x6 x7 x8 x9,
    k8c x0 x1 x2 x3 x4 x5 x6 x7 x8 x9 x10 || runNd x0 x1 x2 x4 x5 x10 x3 x6 x7 x8 x9]

def kuc : List SV → List Entry → Option Out
  | [.one ⟨true, [.val (.int .i64 x0), .val (.int .i64 x1), .val (.int .i64 x2), .ref 0, .ref 1]⟩, .one ⟨true, [.val (.int .i64 x3), .ref 2, .ref 3, .ref 4, .ref 5]⟩, .one ⟨false, [.ref 6]⟩], [.row false 178 (.pair (.int .i64) (.pair (.str) (.int .i64))) x4, .row false 150 (.pair (.int .i64) (.int .i64)) x5, .row false 2 (.int .i64) x6, .row false 2 (.int .i64) x7, .row false 2 (.int .i64) x8, .row false 172 (.pair (.int .i64) (.pair (.int .i64) (.int .i64))) x9, .row false 2 (.int .i64) x10] => some ⟨(.tup [⟨true, [(.val (.int IntKind.i64 (kpx x0 x1 x2 x3 x4 x5 x6 x7 x8 x9 x10))), (.ref 7), (.ref 8), (.ref 9), (.ref 10)]⟩, ⟨false, [(.val (.int IntKind.i64 (kq8 x0 x1 x2 x3 x4 x5 x6 x7 x8 x9 x10)))]⟩]), [(.row false 178 (CTy.pair (CTy.int IntKind.i64) (CTy.pair CTy.str (CTy.int IntKind.i64))) x4), (.row false 150 (CTy.pair (CTy.int IntKind.i64) (CTy.int IntKind.i64)) x5), (.row false 2 (CTy.int IntKind.i64) x6), (.row false 2 (CTy.int IntKind.i64) x7), (.row false 2 (CTy.int IntKind.i64) x8), (.row false 172 (CTy.pair (CTy.int IntKind.i64) (CTy.pair (CTy.int IntKind.i64) (CTy.int IntKind.i64))) x9), (.row false 2 (CTy.int IntKind.i64) x10)], [(.row true 2 (CTy.int IntKind.i64) (kqb x0 x1 x2 x3 x4 x5 x6 x7 x8 x9 x10)), (.row true 2 (CTy.int IntKind.i64) (kq0 x0 x1 x2 x3 x4 x5 x6 x7 x8 x9 x10)), (.row true 2 (CTy.int IntKind.i64) (kq2 x0 x1 x2 x3 x4 x5 x6 x7 x8 x9 x10)), (.row true 172 (CTy.pair (CTy.int IntKind.i64) (CTy.pair (CTy.int IntKind.i64) (CTy.int IntKind.i64))) (kq4 x0 x1 x2 x3 x4 x5 x6 x7 x8 x9 x10))], [(kqa x0 x1 x2 x3 x4 x5 x6 x7 x8 x9 x10)]⟩
  | _, _ => none

def k10e : PF Tryz.prog := PF.ofG Tryz.prog [klb, khi, PF.lend khi, PF.fz khi, k39, PF.lend k39, PF.fz k39] [] hmix 57 Tryz.f57 Tryz.func57 (fun c _ => LOk.nil c) kuc (by
  intro vs es r h; unfold kuc at h; split at h
  · cases h; kernel_rfl
  · cases h)

end Go.SX

namespace Go.SX
open Go.Proofs
set_option maxRecDepth 100000

def mhCode (i v o : Int) (bs : List TM) (st : List IN) (k : Int) (stk xs os : List Int) (ss : List BS3) (l : List (List Int)) : Int := bif !codeB i v o bs st then 1 else bif !(mchB i v o bs st k stk xs os ss && l.all (bitsB i)) then 2 else 0
def mhNd (bs : List TM) (stk xs os : List Int) (l : List (List Int)) : Bool := tsOk bs && (leN stk.length 1048576 && (leN xs.length 1048576 && (leN os.length 1048576 && listNd l)))

def k4v (y2 : Int) (b : List Int) : (Unit) → Nat ⊕ (Unit)
  | _ => (bif ((kju ((b)) y2)) then (.inl 0) else (.inr ()))

def k27 (y2 : Int) (y3 : Int) (y4 : Int) (y5 : List (List Int)) (y6 : List (Int × (ByteArray × Int))) (y7 : List (Int × Int)) (i : Nat) : (Unit) → k1r
  | _ => ((i : Int), (↑(List.length y5) : Int), y2, y3, y4, y5, y6, y7)

def kbk : k1r → Unit
  | (_, _, _, _, _, _, _, _) => ()

theorem kor (y2 : Int) (y3 : Int) (y4 : Int) (y5 : List (List Int)) (y6 : List (Int × (ByteArray × Int))) (y7 : List (Int × Int))  (hn : y5.length ≤ 9223372036854775807) (hA : ∀ x ∈ y5, x.length ≤ 9223372036854775807) :
    k15.fin ((0 : Int), (↑(List.length y5) : Int), y2, y3, y4, y5, y6, y7) = true ∧ k15.res ((0 : Int), (↑(List.length y5) : Int), y2, y3, y4, y5, y6, y7) = ((walkL (k4v y2) 1 y5 0 ()).1, (k27 y2 y3 y4 y5 y6 y7) (walkL (k4v y2) 1 y5 0 ()).2.1 (walkL (k4v y2) 1 y5 0 ()).2.2) := by
  have key := k15.along (k27 y2 y3 y4 y5 y6 y7) kbk (k4v y2) 1 (fun _ _ => True) y5 () (by trivial) (by simp only [k15, k27]; omega) (fun i b a hb hI => ?_) (fun a hI => ?_)
  · exact key
  · obtain ⟨⟩ := a
    have hlt := (List.getElem?_eq_some_iff.1 hb).1
    have hget : ∀ d, Option.getD y5[i]? d = b := fun d => by rw [hb]; rfl
    have hw := wrap64 hlt hn
    have hdec : ltI (i : Int) (y5.length : Int) = true := ltI_t (by omega)
    have hnn : leI (0 : Int) (i : Int) = true := leI_t (by omega)
    have hltd : ltN i y5.length = true := ltN_t hlt
    refine ⟨?_, ?_, ?_, ?_⟩
    · have hg2 : k26 (i : Int) y5 = b := by simp only [k26, Int.toNat_natCast]; exact hget _
      have h6 : leN b.length 9223372036854775807 = true := leN_t (hA b (List.mem_of_getElem? hb))
      simp [k4y, k86, k87, k84, k89, k52, k80, k4n, k15, LT.nds, allT, k27, kjs, hdec, hnn, hltd, hg2, h6]
    · simp [k26, k4y, k86, k87, k84, k89, k52, k80, k4n, k15, LT.each, k27, kbk, hw]
    · have hg2 : k26 (i : Int) y5 = b := by simp only [k26, Int.toNat_natCast]; exact hget _
      simp only [k4y, k52, k4n, k15, LT.fn, k27, kbk, k4v, Int.toNat_natCast, hdec, hg2, cond_true]
    · exact fun _ _ => trivial
  · obtain ⟨⟩ := a
    simp [k26, k4y, k86, k87, k84, k89, k52, k80, k4n, k15, LT.out, k27]

theorem mh_nd {bs : List TM} {stk xs os : List Int} {l : List (List Int)} (h : mhNd bs stk xs os l = true) : tsOk bs = true ∧ (stk.length ≤ 1048576 ∧ xs.length ≤ 1048576 ∧ os.length ≤ 1048576) ∧ l.length ≤ 9223372036854775807 ∧ ∀ x ∈ l, x.length ≤ 9223372036854775807 := by
  simp only [mhNd, listNd, Bool.and_eq_true, List.all_eq_true, leN_iff] at h
  exact ⟨h.1, ⟨h.2.1, h.2.2.1, h.2.2.2.1⟩, h.2.2.2.2.1, h.2.2.2.2.2⟩

theorem machCode (i v o : Int) (bs : List TM) (st : List IN) (k : Int) (stk xs os : List Int) (ss : List BS3) (l : List (List Int)) (h : mhNd bs stk xs os l = true) :
    kl3 i v o k bs st stk xs os ss l = mhCode i v o bs st k stk xs os ss l ∧ kkn i v o k bs st stk xs os ss l = true := by
  obtain ⟨hT, ⟨h1, h2, h3⟩, hl, hA⟩ := mh_nd h
  have t1 : leN stk.length 9223372036854775807 = true := leN_t (by omega)
  have t2 : leN xs.length 9223372036854775807 = true := leN_t (by omega)
  have t3 : leN os.length 9223372036854775807 = true := leN_t (by omega)
  obtain ⟨w1, w2⟩ := kor i v o l bs st hl hA
  rw [walk_stop (P := fun x => !bitsB i x) (j := 0) (fun x => rfl)] at w2
  have e5 : (l.any fun x => !bitsB i x) = !l.all (bitsB i) := by simp [List.all_eq_not_any_not]
  rw [e5] at w2
  have q : ∀ m : Nat, leI 0 (m : Int) = true := fun m => leI_t (by omega)
  have q2 : leI 0 (-1) = false := rfl
  simp only [kl3, kkn, kc5, kby, kde, kdi, k68, k90, w1, w2, t1, t2, t3, mhCode, pNd, allT]
  cases hc : codeB i v o bs st with
  | false => exact ⟨rfl, rfl⟩
  | true => cases mchB i v o bs st k stk xs os ss <;> cases l.all (bitsB i) <;> simp [Nat.beq, q, q2, k27]

theorem specCode (i v o : Int) (bs : List TM) (st : List IN) (k : Int) (stk xs os : List Int) (ss : List BS3) (inp : List Int) (h : mhNd bs stk xs os [inp] = true) :
    kli i v o k bs st stk xs os ss inp = mhCode i v o bs st k stk xs os ss [inp] ∧ kqm i v o k bs st stk xs os ss inp = true := by
  obtain ⟨hT, ⟨h1, h2, h3⟩, hl, hA⟩ := mh_nd h
  have t1 : leN stk.length 9223372036854775807 = true := leN_t (by omega)
  have t2 : leN xs.length 9223372036854775807 = true := leN_t (by omega)
  have t3 : leN os.length 9223372036854775807 = true := leN_t (by omega)
  have t4 : leN inp.length 9223372036854775807 = true := leN_t (hA inp (by simp))
  simp only [kli, kqm, mhCode, hT, pNd, t1, t2, t3, t4, allT, List.all_cons, List.all_nil, Bool.and_true]
  cases codeB i v o bs st <;> cases mchB i v o bs st k stk xs os ss <;> cases bitsB i inp <;> simp

theorem mh_ok {i v o : Int} {bs : List TM} {st : List IN} {k : Int} {stk xs os : List Int} {ss : List BS3} {inp : List Int} (h : mhCode i v o bs st k stk xs os ss [inp] = 0) : runNd i v o bs st inp k stk xs os ss = true := by
  simp only [mhCode, List.all_cons, List.all_nil, Bool.and_true] at h
  cases hc : codeB i v o bs st with
  | false => rw [hc] at h; cases h
  | true =>
    rw [hc] at h
    cases hm : mchB i v o bs st k stk xs os ss && bitsB i inp with
    | false => rw [hm] at h; cases h
    | true =>
      simp only [Bool.and_eq_true] at hm
      simp only [runNd, hc, hm.1, hm.2]; rfl

theorem run_hi {i v o : Int} {bs : List TM} {st : List IN} {inp : List Int} {k : Int} {stk xs os : List Int} {ss : List BS3} (h : runNd i v o bs st inp k stk xs os ss = true) : 0 ≤ k ∧ k ≤ st.length := by
  simp only [runNd, Bool.and_eq_true] at h
  have := mch_ok h.1 h.2.2
  exact ⟨this.lo, this.hi⟩

def ssCode (i v o : Int) (bs : List TM) (st : List IN) (k : Int) (stk xs os : List Int) (ss : List BS3) (inp : List Int) : Int := bif mhCode i v o bs st k stk xs os ss [inp] == 0 && k == (st.length : Int) then 5 else mhCode i v o bs st k stk xs os ss [inp]
def m0 : MS := (0, [], [], [], [])
def ssM (i v o : Int) (bs : List TM) (st : List IN) (k : Int) (stk xs os : List Int) (ss : List BS3) (inp : List Int) : MS := bif ssCode i v o bs st k stk xs os ss inp == 0 then stM bs st inp k stk xs os ss else m0
def sfM (i v o : Int) (bs : List TM) (st : List IN) (k : Int) (stk xs os : List Int) (ss : List BS3) (inp : List Int) : MS := bif mhCode i v o bs st k stk xs os ss [inp] == 0 then fnM bs st inp k stk xs os ss else m0

theorem k16y {i v o : Int} {bs : List TM} {st : List IN} {k : Int} {stk xs os : List Int} {ss : List BS3} {inp : List Int} (h : ssCode i v o bs st k stk xs os ss inp = 0) :
    mhCode i v o bs st k stk xs os ss [inp] = 0 ∧ (k == (st.length : Int)) = false ∧ stNd i v o bs st inp k stk xs os ss = true := by
  simp only [ssCode] at h
  cases hm : mhCode i v o bs st k stk xs os ss [inp] == 0 with
  | false =>
    rw [hm, Bool.false_and, cond_false] at h
    rw [h] at hm; cases hm
  | true =>
    rw [hm, Bool.true_and] at h
    have hm := by simpa using hm
    have hr := mh_ok hm
    obtain ⟨k0, k1⟩ := run_hi hr
    cases hk : k == (st.length : Int) with
    | true => rw [hk] at h; cases h
    | false =>
      have hk := by simpa using hk
      exact ⟨hm, rfl, by simp only [stNd, hr, ltI_t (show k < (st.length : Int) by omega)]; rfl⟩

theorem specSM (i v o : Int) (bs : List TM) (st : List IN) (k : Int) (stk xs os : List Int) (ss : List BS3) (inp : List Int) (h : mhNd bs stk xs os [inp] = true) :
    kro i v o k bs st stk xs os ss inp = (ssM i v o bs st k stk xs os ss inp).1 ∧ kse i v o k bs st stk xs os ss inp = ssCode i v o bs st k stk xs os ss inp ∧
    krq i v o k bs st stk xs os ss inp = (ssM i v o bs st k stk xs os ss inp).2.1 ∧ krm i v o k bs st stk xs os ss inp = (ssM i v o bs st k stk xs os ss inp).2.2.1 ∧
    krf i v o k bs st stk xs os ss inp = (ssM i v o bs st k stk xs os ss inp).2.2.2.1 ∧ krz i v o k bs st stk xs os ss inp = (ssM i v o bs st k stk xs os ss inp).2.2.2.2 ∧ krx i v o k bs st stk xs os ss inp = true := by
  obtain ⟨c0, c1⟩ := specCode i v o bs st k stk xs os ss inp h
  have e : knk i v o k bs st stk xs os ss inp = ssCode i v o bs st k stk xs os ss inp := by
    simp only [knk, c0, ssCode]
    cases mhCode i v o bs st k stk xs os ss [inp] == 0 <;> rfl
  simp only [kro, kse, krq, krm, krf, krz, krx, kch, e, c1, ssM, allT]
  by_cases hz : ssCode i v o bs st k stk xs os ss inp = 0
  · obtain ⟨_, _, h4⟩ := k16y hz
    simp [hz, h4]
  · have : (ssCode i v o bs st k stk xs os ss inp == 0) = false := by simpa using hz
    simp [bne, this, m0]

theorem implSM (i v o : Int) (bs : List TM) (st : List IN) (k : Int) (stk xs os : List Int) (ss : List BS3) (inp : List Int) (h : (mhNd bs stk xs os [inp] && leN ss.length 1048576) = true) :
    krj i v o k bs st stk xs os ss inp = (ssM i v o bs st k stk xs os ss inp).1 ∧ krn i v o k bs st stk xs os ss inp = ssCode i v o bs st k stk xs os ss inp ∧
    ksc i v o k bs st stk xs os ss inp = (ssM i v o bs st k stk xs os ss inp).2.1 ∧ ks8 i v o k bs st stk xs os ss inp = (ssM i v o bs st k stk xs os ss inp).2.2.1 ∧
    ks5 i v o k bs st stk xs os ss inp = (ssM i v o bs st k stk xs os ss inp).2.2.2.1 ∧ krg i v o k bs st stk xs os ss inp = (ssM i v o bs st k stk xs os ss inp).2.2.2.2 ∧ krk i v o k bs st stk xs os ss inp = true := by
  simp only [Bool.and_eq_true] at h
  obtain ⟨h, l4⟩ := h
  obtain ⟨c0, c1⟩ := machCode i v o bs st k stk xs os ss [inp] h
  obtain ⟨_, ⟨h1, h2, h3⟩, _⟩ := mh_nd h
  have t1 : leN stk.length 1048576 = true := leN_t h1
  have t2 : leN xs.length 1048576 = true := leN_t h2
  have t3 : leN os.length 1048576 = true := leN_t h3
  have hlen : kv st = (st.length : Int) := rfl
  simp only [krj, krn, ksc, ks8, ks5, krg, krk, kaz, kr3, k4s, hlen, c0, c1, t1, t2, t3, l4, allT]
  by_cases hz : ssCode i v o bs st k stk xs os ss inp = 0
  · obtain ⟨z1, z2, h4⟩ := k16y hz
    simp only [ssM, hz]
    simp [z1, z2, h4]
  · have hz' : (ssCode i v o bs st k stk xs os ss inp == 0) = false := by simpa using hz
    have e : ssM i v o bs st k stk xs os ss inp = m0 := by simp only [ssM, hz', cond_false]
    rw [e]
    cases hm : mhCode i v o bs st k stk xs os ss [inp] == 0 with
    | false =>
      have e2 : ssCode i v o bs st k stk xs os ss inp = mhCode i v o bs st k stk xs os ss [inp] := by simp only [ssCode, hm, Bool.false_and, cond_false]
      simp [bne, hm, m0, e2]
    | true =>
      cases hk : k == (st.length : Int) with
      | false =>
        simp only [ssCode, hm, hk, Bool.and_false, cond_false] at hz'
        cases hz'
      | true =>
        have e2 : ssCode i v o bs st k stk xs os ss inp = 5 := by simp only [ssCode, hm, hk, Bool.and_self, cond_true]
        simp [bne, hm, m0, e2]

theorem specFM (i v o : Int) (bs : List TM) (st : List IN) (k : Int) (stk xs os : List Int) (ss : List BS3) (inp : List Int) (h : mhNd bs stk xs os [inp] = true) :
    kpq i v o k bs st stk xs os ss inp = (sfM i v o bs st k stk xs os ss inp).1 ∧ kpy i v o k bs st stk xs os ss inp = mhCode i v o bs st k stk xs os ss [inp] ∧
    kqc i v o k bs st stk xs os ss inp = (sfM i v o bs st k stk xs os ss inp).2.1 ∧ kpr i v o k bs st stk xs os ss inp = (sfM i v o bs st k stk xs os ss inp).2.2.1 ∧
    kq9 i v o k bs st stk xs os ss inp = (sfM i v o bs st k stk xs os ss inp).2.2.2.1 ∧ kqd i v o k bs st stk xs os ss inp = (sfM i v o bs st k stk xs os ss inp).2.2.2.2 ∧ kq5 i v o k bs st stk xs os ss inp = true := by
  obtain ⟨c0, c1⟩ := specCode i v o bs st k stk xs os ss inp h
  simp only [kpq, kpy, kqc, kpr, kq9, kqd, kq5, kas, c0, c1, sfM, allT]
  by_cases h1 : mhCode i v o bs st k stk xs os ss [inp] = 0
  · simp [h1, mh_ok h1]
  · have : (mhCode i v o bs st k stk xs os ss [inp] == 0) = false := by simpa using h1
    simp [bne, this, m0]

theorem implFM (i v o : Int) (bs : List TM) (st : List IN) (k : Int) (stk xs os : List Int) (ss : List BS3) (inp : List Int) (h : (mhNd bs stk xs os [inp] && leN ss.length 1048576) = true) :
    kpx i v o k bs st stk xs os ss inp = (sfM i v o bs st k stk xs os ss inp).1 ∧ kq8 i v o k bs st stk xs os ss inp = mhCode i v o bs st k stk xs os ss [inp] ∧
    kqb i v o k bs st stk xs os ss inp = (sfM i v o bs st k stk xs os ss inp).2.1 ∧ kq0 i v o k bs st stk xs os ss inp = (sfM i v o bs st k stk xs os ss inp).2.2.1 ∧
    kq2 i v o k bs st stk xs os ss inp = (sfM i v o bs st k stk xs os ss inp).2.2.2.1 ∧ kq4 i v o k bs st stk xs os ss inp = (sfM i v o bs st k stk xs os ss inp).2.2.2.2 ∧ kqa i v o k bs st stk xs os ss inp = true := by
  simp only [Bool.and_eq_true] at h
  obtain ⟨h, l4⟩ := h
  obtain ⟨c0, c1⟩ := machCode i v o bs st k stk xs os ss [inp] h
  obtain ⟨_, ⟨h1, h2, h3⟩, _⟩ := mh_nd h
  have t1 : leN stk.length 1048576 = true := leN_t h1
  have t2 : leN xs.length 1048576 = true := leN_t h2
  have t3 : leN os.length 1048576 = true := leN_t h3
  simp only [kpx, kq8, kqb, kq0, kq2, kq4, kqa, k8c, kp0, k4s, c0, c1, sfM, t1, t2, t3, l4, allT]
  by_cases h1 : mhCode i v o bs st k stk xs os ss [inp] = 0
  · simp [h1, mh_ok h1]
  · have : (mhCode i v o bs st k stk xs os ss [inp] == 0) = false := by simpa using h1
    simp [bne, this, m0]

def kw6 : List SV → List Entry → Option Out
  | [.one ⟨true, [.val (.int .i64 x0), .val (.int .i64 x1), .val (.int .i64 x2), .ref 0, .ref 1]⟩, .one ⟨true, [.val (.int .i64 x3), .ref 2, .ref 3, .ref 4, .ref 5]⟩, .one ⟨false, [.ref 6]⟩], [.row false 178 (.pair (.int .i64) (.pair (.str) (.int .i64))) x4, .row false 150 (.pair (.int .i64) (.int .i64)) x5, .row false 2 (.int .i64) x6, .row false 2 (.int .i64) x7, .row false 2 (.int .i64) x8, .row false 172 (.pair (.int .i64) (.pair (.int .i64) (.int .i64))) x9, .row false 2 (.int .i64) x10] => some ⟨(.tup [⟨true, [(.val (.int IntKind.i64 ((ssM x0 x1 x2 x4 x5 x3 x6 x7 x8 x9 x10).1))), (.ref 7), (.ref 8), (.ref 9), (.ref 10)]⟩, ⟨false, [(.val (.int IntKind.i64 (ssCode x0 x1 x2 x4 x5 x3 x6 x7 x8 x9 x10)))]⟩]), [(.row false 178 (CTy.pair (CTy.int IntKind.i64) (CTy.pair CTy.str (CTy.int IntKind.i64))) x4), (.row false 150 (CTy.pair (CTy.int IntKind.i64) (CTy.int IntKind.i64)) x5), (.row false 2 (CTy.int IntKind.i64) x6), (.row false 2 (CTy.int IntKind.i64) x7), (.row false 2 (CTy.int IntKind.i64) x8), (.row false 172 (CTy.pair (CTy.int IntKind.i64) (CTy.pair (CTy.int IntKind.i64) (CTy.int IntKind.i64))) x9), (.row false 2 (CTy.int IntKind.i64) x10)], [(.row false 2 (CTy.int IntKind.i64) ((ssM x0 x1 x2 x4 x5 x3 x6 x7 x8 x9 x10).2.1)), (.row false 2 (CTy.int IntKind.i64) ((ssM x0 x1 x2 x4 x5 x3 x6 x7 x8 x9 x10).2.2.1)), (.row false 2 (CTy.int IntKind.i64) ((ssM x0 x1 x2 x4 x5 x3 x6 x7 x8 x9 x10).2.2.2.1)), (.row false 172 (CTy.pair (CTy.int IntKind.i64) (CTy.pair (CTy.int IntKind.i64) (CTy.int IntKind.i64))) ((ssM x0 x1 x2 x4 x5 x3 x6 x7 x8 x9 x10).2.2.2.2))], [mhNd x4 x6 x7 x8 [x10]]⟩
  | _, _ => none

def kry : PF Tryz.prog := PF.alt k12g kw6 (by
  intro args es o h hnd; unfold kw6 at h; split at h
  · rename_i x0 x1 x2 x3 x4 x5 x6 x7 x8 x9 x10
    cases h
    have hnd := nd_fst hnd
    have hh := specSM x0 x1 x2 x4 x5 x3 x6 x7 x8 x9 x10 hnd
    obtain ⟨e0, e1, e2, e3, e4, e5, en⟩ := hh
    exact altok rfl (nd_one en) (by simp only [e0, e1] <;> rfl) rfl (by simp only [e2, e3, e4, e5] <;> rfl)
  · cases h)

def kwl : List SV → List Entry → Option Out
  | [.one ⟨true, [.val (.int .i64 x0), .val (.int .i64 x1), .val (.int .i64 x2), .ref 0, .ref 1]⟩, .one ⟨true, [.val (.int .i64 x3), .ref 2, .ref 3, .ref 4, .ref 5]⟩, .one ⟨false, [.ref 6]⟩], [.row false 178 (.pair (.int .i64) (.pair (.str) (.int .i64))) x4, .row false 150 (.pair (.int .i64) (.int .i64)) x5, .row false 2 (.int .i64) x6, .row false 2 (.int .i64) x7, .row false 2 (.int .i64) x8, .row false 172 (.pair (.int .i64) (.pair (.int .i64) (.int .i64))) x9, .row false 2 (.int .i64) x10] => some ⟨(.tup [⟨true, [(.val (.int IntKind.i64 ((ssM x0 x1 x2 x4 x5 x3 x6 x7 x8 x9 x10).1))), (.ref 7), (.ref 8), (.ref 9), (.ref 10)]⟩, ⟨false, [(.val (.int IntKind.i64 (ssCode x0 x1 x2 x4 x5 x3 x6 x7 x8 x9 x10)))]⟩]), [(.row false 178 (CTy.pair (CTy.int IntKind.i64) (CTy.pair CTy.str (CTy.int IntKind.i64))) x4), (.row false 150 (CTy.pair (CTy.int IntKind.i64) (CTy.int IntKind.i64)) x5), (.row false 2 (CTy.int IntKind.i64) x6), (.row false 2 (CTy.int IntKind.i64) x7), (.row false 2 (CTy.int IntKind.i64) x8), (.row false 172 (CTy.pair (CTy.int IntKind.i64) (CTy.pair (CTy.int IntKind.i64) (CTy.int IntKind.i64))) x9), (.row false 2 (CTy.int IntKind.i64) x10)], [(.row true 2 (CTy.int IntKind.i64) ((ssM x0 x1 x2 x4 x5 x3 x6 x7 x8 x9 x10).2.1)), (.row true 2 (CTy.int IntKind.i64) ((ssM x0 x1 x2 x4 x5 x3 x6 x7 x8 x9 x10).2.2.1)), (.row true 2 (CTy.int IntKind.i64) ((ssM x0 x1 x2 x4 x5 x3 x6 x7 x8 x9 x10).2.2.2.1)), (.row true 172 (CTy.pair (CTy.int IntKind.i64) (CTy.pair (CTy.int IntKind.i64) (CTy.int IntKind.i64))) ((ssM x0 x1 x2 x4 x5 x3 x6 x7 x8 x9 x10).2.2.2.2))], [mhNd x4 x6 x7 x8 [x10] && leN x9.length 1048576]⟩
  | _, _ => none

def krw : PF Tryz.prog := PF.alt k12c kwl (by
  intro args es o h hnd; unfold kwl at h; split at h
  · rename_i x0 x1 x2 x3 x4 x5 x6 x7 x8 x9 x10
    cases h
    have hnd := nd_fst hnd
    have hh := implSM x0 x1 x2 x4 x5 x3 x6 x7 x8 x9 x10 hnd
    obtain ⟨e0, e1, e2, e3, e4, e5, en⟩ := hh
    exact altok rfl (nd_one en) (by simp only [e0, e1] <;> rfl) rfl (by simp only [e2, e3, e4, e5] <;> rfl)
  · cases h)

def ku8 : List SV → List Entry → Option Out
  | [.one ⟨true, [.val (.int .i64 x0), .val (.int .i64 x1), .val (.int .i64 x2), .ref 0, .ref 1]⟩, .one ⟨true, [.val (.int .i64 x3), .ref 2, .ref 3, .ref 4, .ref 5]⟩, .one ⟨false, [.ref 6]⟩], [.row false 178 (.pair (.int .i64) (.pair (.str) (.int .i64))) x4, .row false 150 (.pair (.int .i64) (.int .i64)) x5, .row false 2 (.int .i64) x6, .row false 2 (.int .i64) x7, .row false 2 (.int .i64) x8, .row false 172 (.pair (.int .i64) (.pair (.int .i64) (.int .i64))) x9, .row false 2 (.int .i64) x10] => some ⟨(.tup [⟨true, [(.val (.int IntKind.i64 ((sfM x0 x1 x2 x4 x5 x3 x6 x7 x8 x9 x10).1))), (.ref 7), (.ref 8), (.ref 9), (.ref 10)]⟩, ⟨false, [(.val (.int IntKind.i64 (mhCode x0 x1 x2 x4 x5 x3 x6 x7 x8 x9 [x10])))]⟩]), [(.row false 178 (CTy.pair (CTy.int IntKind.i64) (CTy.pair CTy.str (CTy.int IntKind.i64))) x4), (.row false 150 (CTy.pair (CTy.int IntKind.i64) (CTy.int IntKind.i64)) x5), (.row false 2 (CTy.int IntKind.i64) x6), (.row false 2 (CTy.int IntKind.i64) x7), (.row false 2 (CTy.int IntKind.i64) x8), (.row false 172 (CTy.pair (CTy.int IntKind.i64) (CTy.pair (CTy.int IntKind.i64) (CTy.int IntKind.i64))) x9), (.row false 2 (CTy.int IntKind.i64) x10)], [(.row false 2 (CTy.int IntKind.i64) ((sfM x0 x1 x2 x4 x5 x3 x6 x7 x8 x9 x10).2.1)), (.row false 2 (CTy.int IntKind.i64) ((sfM x0 x1 x2 x4 x5 x3 x6 x7 x8 x9 x10).2.2.1)), (.row false 2 (CTy.int IntKind.i64) ((sfM x0 x1 x2 x4 x5 x3 x6 x7 x8 x9 x10).2.2.2.1)), (.row false 172 (CTy.pair (CTy.int IntKind.i64) (CTy.pair (CTy.int IntKind.i64) (CTy.int IntKind.i64))) ((sfM x0 x1 x2 x4 x5 x3 x6 x7 x8 x9 x10).2.2.2.2))], [mhNd x4 x6 x7 x8 [x10]]⟩
  | _, _ => none

def kpv : PF Tryz.prog := PF.alt k10l ku8 (by
  intro args es o h hnd; unfold ku8 at h; split at h
  · rename_i x0 x1 x2 x3 x4 x5 x6 x7 x8 x9 x10
    cases h
    have hnd := nd_fst hnd
    have hh := specFM x0 x1 x2 x4 x5 x3 x6 x7 x8 x9 x10 hnd
    obtain ⟨e0, e1, e2, e3, e4, e5, en⟩ := hh
    exact altok rfl (nd_one en) (by simp only [e0, e1] <;> rfl) rfl (by simp only [e2, e3, e4, e5] <;> rfl)
  · cases h)

def kuj : List SV → List Entry → Option Out
  | [.one ⟨true, [.val (.int .i64 x0), .val (.int .i64 x1), .val (.int .i64 x2), .ref 0, .ref 1]⟩, .one ⟨true, [.val (.int .i64 x3), .ref 2, .ref 3, .ref 4, .ref 5]⟩, .one ⟨false, [.ref 6]⟩], [.row false 178 (.pair (.int .i64) (.pair (.str) (.int .i64))) x4, .row false 150 (.pair (.int .i64) (.int .i64)) x5, .row false 2 (.int .i64) x6, .row false 2 (.int .i64) x7, .row false 2 (.int .i64) x8, .row false 172 (.pair (.int .i64) (.pair (.int .i64) (.int .i64))) x9, .row false 2 (.int .i64) x10] => some ⟨(.tup [⟨true, [(.val (.int IntKind.i64 ((sfM x0 x1 x2 x4 x5 x3 x6 x7 x8 x9 x10).1))), (.ref 7), (.ref 8), (.ref 9), (.ref 10)]⟩, ⟨false, [(.val (.int IntKind.i64 (mhCode x0 x1 x2 x4 x5 x3 x6 x7 x8 x9 [x10])))]⟩]), [(.row false 178 (CTy.pair (CTy.int IntKind.i64) (CTy.pair CTy.str (CTy.int IntKind.i64))) x4), (.row false 150 (CTy.pair (CTy.int IntKind.i64) (CTy.int IntKind.i64)) x5), (.row false 2 (CTy.int IntKind.i64) x6), (.row false 2 (CTy.int IntKind.i64) x7), (.row false 2 (CTy.int IntKind.i64) x8), (.row false 172 (CTy.pair (CTy.int IntKind.i64) (CTy.pair (CTy.int IntKind.i64) (CTy.int IntKind.i64))) x9), (.row false 2 (CTy.int IntKind.i64) x10)], [(.row true 2 (CTy.int IntKind.i64) ((sfM x0 x1 x2 x4 x5 x3 x6 x7 x8 x9 x10).2.1)), (.row true 2 (CTy.int IntKind.i64) ((sfM x0 x1 x2 x4 x5 x3 x6 x7 x8 x9 x10).2.2.1)), (.row true 2 (CTy.int IntKind.i64) ((sfM x0 x1 x2 x4 x5 x3 x6 x7 x8 x9 x10).2.2.2.1)), (.row true 172 (CTy.pair (CTy.int IntKind.i64) (CTy.pair (CTy.int IntKind.i64) (CTy.int IntKind.i64))) ((sfM x0 x1 x2 x4 x5 x3 x6 x7 x8 x9 x10).2.2.2.2))], [mhNd x4 x6 x7 x8 [x10] && leN x9.length 1048576]⟩
  | _, _ => none

def kq1 : PF Tryz.prog := PF.alt k10e kuj (by
  intro args es o h hnd; unfold kuj at h; split at h
  · rename_i x0 x1 x2 x3 x4 x5 x6 x7 x8 x9 x10
    cases h
    have hnd := nd_fst hnd
    have hh := implFM x0 x1 x2 x4 x5 x3 x6 x7 x8 x9 x10 hnd
    obtain ⟨e0, e1, e2, e3, e4, e5, en⟩ := hh
    exact altok rfl (nd_one en) (by simp only [e0, e1] <;> rfl) rfl (by simp only [e2, e3, e4, e5] <;> rfl)
  · cases h)

end Go.SX

namespace Go.SX
open Go.Proofs
set_option maxRecDepth 100000

def k8a (x3 : Int) (x4 : List (Int × ByteArray × Int)) (x5 : List (Int × Int)) : Int :=
  bif ltI (szTs x3 x4) (0 : Int) then (-1 : Int)
  else bif ltI (szL (szTs x3 x4) (List.length x5)) (0 : Int) then (-1 : Int) else szL (szTs x3 x4) (List.length x5)

def ksy (x3 : Int) (x4 : List (Int × ByteArray × Int)) (x5 : List (Int × Int)) : Bool :=
  allT
  [leN (List.length x4) (9223372036854775807 : Nat) && (leI (-1 : Int) x3 && leI x3 (1048576 : Int)),
    ltI (szTs x3 x4) (0 : Int) ||
      leN (List.length x5) (9223372036854775807 : Nat) && (leI (-1 : Int) (szTs x3 x4) && leI (szTs x3 x4) (1048576 : Int))]

def k13p : List SV → List Entry → Option Out
  | [.one ⟨true, [.val (.int .i64 _x0), .val (.int .i64 _x1), .val (.int .i64 _x2), .ref 0, .ref 1]⟩, .one ⟨false, [.val (.int .i64 x3)]⟩], [.row false 175 (.pair (.int .i64) (.pair (.str) (.int .i64))) x4, .row false 183 (.pair (.int .i64) (.int .i64)) x5] => some ⟨(.one ⟨false, [(.val (.int IntKind.i64 (k8a x3 x4 x5)))]⟩), [(.row false 175 (CTy.pair (CTy.int IntKind.i64) (CTy.pair CTy.str (CTy.int IntKind.i64))) x4), (.row false 183 (CTy.pair (CTy.int IntKind.i64) (CTy.int IntKind.i64)) x5)], [], [(ksy x3 x4 x5)]⟩
  | _, _ => none

def kqi : PF Tryz.prog := PF.ofG Tryz.prog [kxi, PF.lend kxi, PF.fz kxi, kpa, PF.lend kpa, PF.fz kpa] [] hmix 15 Tryz.f15 Tryz.func15 (fun c _ => LOk.nil c) k13p (by
  intro vs es r h; unfold k13p at h; split at h
  · cases h; kernel_rfl
  · cases h)

def kgi (x3 : List (Int × ByteArray × Int)) (x4 : List (Int × Int)) : Bool :=
  allT [leN (List.length x3) (1048576 : Nat), leN (List.length x4) (1048576 : Nat)]

def k13s : List SV → List Entry → Option Out
  | [.one ⟨true, [.val (.int .i64 x0), .val (.int .i64 x1), .val (.int .i64 x2), .ref 0, .ref 1]⟩], [.row false 175 (.pair (.int .i64) (.pair (.str) (.int .i64))) x3, .row false 183 (.pair (.int .i64) (.int .i64)) x4] => some ⟨(.one ⟨true, [(.val (.int IntKind.i64 x0)), (.val (.int IntKind.i64 x1)), (.val (.int IntKind.i64 x2)), (.ref 2), (.ref 3)]⟩), [(.row false 175 (CTy.pair (CTy.int IntKind.i64) (CTy.pair CTy.str (CTy.int IntKind.i64))) x3), (.row false 183 (CTy.pair (CTy.int IntKind.i64) (CTy.int IntKind.i64)) x4)], [(.row true 178 (CTy.pair (CTy.int IntKind.i64) (CTy.pair CTy.str (CTy.int IntKind.i64))) x3), (.row true 150 (CTy.pair (CTy.int IntKind.i64) (CTy.int IntKind.i64)) x4)], [(kgi x3 x4)]⟩
  | _, _ => none

def kqh : PF Tryz.prog := PF.ofG Tryz.prog [kx6, PF.lend kx6, PF.fz kx6, kou, PF.lend kou, PF.fz kou] [] hmix 18 Tryz.f18 Tryz.func18 (fun c _ => LOk.nil c) k13s (by
  intro vs es r h; unfold k13s at h; split at h
  · cases h; kernel_rfl
  · cases h)

def k1w (x0 : Int) (x1 : Int) (x2 : Int) (x3 : Int) (x4 : Int) (x5 : Int) (x6 : List (Int × ByteArray × Int)) (x7 : List (Int × Int)) (x8 : List (Int × ByteArray × Int)) (x9 : List (Int × Int)) : Bool :=
  bif x0 != x3 then false
  else bif x1 != x4 then false else bif x2 != x5 then false else bif !eqTs x6 x8 then false else bif !eqIs x7 x9 then false else true

def kod (x0 : Int) (x1 : Int) (x2 : Int) (x3 : Int) (x4 : Int) (x5 : Int) (x6 : List (Int × ByteArray × Int)) (x7 : List (Int × Int)) (x8 : List (Int × ByteArray × Int)) : Bool :=
  allT
  [x0 != x3 || (x1 != x4 || (x2 != x5 || leN (List.length x6) (9223372036854775807 : Nat))),
    x0 != x3 || (x1 != x4 || (x2 != x5 || (!eqTs x6 x8 || leN (List.length x7) (9223372036854775807 : Nat))))]

def k13f : List SV → List Entry → Option Out
  | [.one ⟨true, [.val (.int .i64 x0), .val (.int .i64 x1), .val (.int .i64 x2), .ref 0, .ref 1]⟩, .one ⟨true, [.val (.int .i64 x3), .val (.int .i64 x4), .val (.int .i64 x5), .ref 2, .ref 3]⟩], [.row false 178 (.pair (.int .i64) (.pair (.str) (.int .i64))) x6, .row false 150 (.pair (.int .i64) (.int .i64)) x7, .row false 178 (.pair (.int .i64) (.pair (.str) (.int .i64))) x8, .row false 150 (.pair (.int .i64) (.int .i64)) x9] => some ⟨(.one ⟨false, [(.val (.bool (k1w x0 x1 x2 x3 x4 x5 x6 x7 x8 x9)))]⟩), [(.row false 178 (CTy.pair (CTy.int IntKind.i64) (CTy.pair CTy.str (CTy.int IntKind.i64))) x6), (.row false 150 (CTy.pair (CTy.int IntKind.i64) (CTy.int IntKind.i64)) x7), (.row false 178 (CTy.pair (CTy.int IntKind.i64) (CTy.pair CTy.str (CTy.int IntKind.i64))) x8), (.row false 150 (CTy.pair (CTy.int IntKind.i64) (CTy.int IntKind.i64)) x9)], [], [(kod x0 x1 x2 x3 x4 x5 x6 x7 x8)]⟩
  | _, _ => none

def kqg : PF Tryz.prog := PF.ofG Tryz.prog [kwz, PF.lend kwz, PF.fz kwz, kox, PF.lend kox, PF.fz kox] [] hmix 22 Tryz.f22 Tryz.func22 (fun c _ => LOk.nil c) k13f (by
  intro vs es r h; unfold k13f at h; split at h
  · cases h; kernel_rfl
  · cases h)

def ko1 (x3 : Int) (x4 : List (Int × ByteArray × Int)) : Int :=
  x3 + (3 : Int) * (↑(List.length x4) : Int)

def k92 (x3 : Int) (x4 : List (Int × ByteArray × Int)) (x5 : List (Int × Int)) : Int :=
  ko1 x3 x4 + (2 : Int) * (↑(List.length x5) : Int)

def k153 (x3 : Int) (x4 : List (Int × ByteArray × Int)) : List (Int × (ByteArray × Int)) :=
  kuu x3 x4

def k14x (x3 : Int) (x4 : List (Int × ByteArray × Int)) (x5 : List (Int × Int)) : List (Int × Int) :=
  knh (ko1 x3 x4) x5

def kpf (x3 : Int) (x4 : List (Int × ByteArray × Int)) (x5 : List (Int × Int)) : Bool :=
  allT
  [mkOk3 (3 : Nat) x3 (List.length x4) && leN (List.length x4) (9223372036854775807 : Nat),
    mkOk3 (2 : Nat) (ko1 x3 x4) (List.length x5) && leN (List.length x5) (9223372036854775807 : Nat)]

def k102 : List SV → List Entry → Option Out
  | [.one ⟨true, [.val (.int .i64 _x0), .val (.int .i64 _x1), .val (.int .i64 _x2), .ref 0, .ref 1]⟩, .one ⟨false, [.val (.int .i64 x3)]⟩], [.row true 178 (.pair (.int .i64) (.pair (.str) (.int .i64))) x4, .row true 150 (.pair (.int .i64) (.int .i64)) x5] => some ⟨(.one ⟨false, [(.val (.int IntKind.i64 (k92 x3 x4 x5)))]⟩), [(.row true 178 (CTy.pair (CTy.int IntKind.i64) (CTy.pair CTy.str (CTy.int IntKind.i64))) (k153 x3 x4)), (.row true 150 (CTy.pair (CTy.int IntKind.i64) (CTy.int IntKind.i64)) (k14x x3 x4 x5))], [], [(kpf x3 x4 x5)]⟩
  | _, _ => none

def kn3 : PF Tryz.prog := PF.ofG Tryz.prog [ku7, PF.lend ku7, PF.fz ku7, kn9, PF.lend kn9, PF.fz kn9] [] hmix 23 Tryz.f23 Tryz.func23 (fun c _ => LOk.nil c) k102 (by
  intro vs es r h; unfold k102 at h; split at h
  · cases h; kernel_rfl
  · cases h)

end Go.SX
