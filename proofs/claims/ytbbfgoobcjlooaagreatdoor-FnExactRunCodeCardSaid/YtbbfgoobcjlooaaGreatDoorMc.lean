/- What functions of the program come to, and what that says in plain words: part 3. -/
import Derived.Test.YtbbfgoobcjlooaaGreatDoorMb
import Derived.Test.YtbbfgoobcjlooaaGreatDoorTXh
import Derived.Test.YtbbfgoobcjlooaaGreatDoorProg
import Derived.Test.YtbbfgoobcjlooaaGreatDoorTXi
set_option linter.unusedSimpArgs false
set_option linter.unusedVariables false
namespace Go.SX
open Go.Proofs
set_option maxRecDepth 100000

def kjw (x0 : Int) (x1 : List Int) : List Int :=
  bif x0 == (0 : Int) then List.replicate (Int.toNat (↑(List.length x1) : Int)) (0 : Int) else x1

def kjq (x0 : Int) (x1 : List Int) : Bool :=
  allT
  [!x0 == (0 : Int) || leI (0 : Int) (↑(List.length x1) : Int), !x0 == (0 : Int) || leI (↑(List.length x1) : Int) (↑(List.length x1) : Int),
    !x0 == (0 : Int) || leI ((↑(8 : Nat) : Int) * (↑(List.length x1) : Int)) (281474976710656 : Int),
    !x0 == (0 : Int) || leI (↑(List.length x1) : Int) (9223372036854775807 : Int)]

def kyn : List SV → List Entry → Option Out
  | [.one ⟨false, [.ref 0]⟩, .one ⟨false, [.val (.int .i64 x0)]⟩], [.row false 2 (.int .i64) x1] => some ⟨(.one ⟨false, [(.ref 1)]⟩), [(.row false 2 (CTy.int IntKind.i64) x1)], [(.row false 2 (CTy.int IntKind.i64) (kjw x0 x1))], [(kjq x0 x1)]⟩
  | _, _ => none

def kuk : PF Tryz.prog := PF.ofG Tryz.prog [] [] hmix 191 Tryz.f191 Tryz.func191 (fun c _ => LOk.nil c) kyn (by
  intro vs es r h; unfold kyn at h; split at h
  · cases h; kernel_rfl
  · cases h)

def kz (x3 : Int) (x5 : List (Int × Int)) : Int × Int :=
  Option.getD x5[Int.toNat x3]? ((0 : Int), (0 : Int))

def ka (x3 : Int) (x5 : List (Int × Int)) : Bool :=
  Prod.fst (kz x3 x5) == (1 : Int)

def kd (x3 : Int) (x5 : List (Int × Int)) : Bool :=
  k6b (Prod.fst (kz x3 x5)) == (1 : Int)

def k2c (x3 : Int) : Int :=
  IntKind.wrap IntKind.i64 (x3 + (1 : Int))

def kb (x3 : Int) (x5 : List (Int × Int)) : Bool :=
  Prod.fst (kz x3 x5) == (2 : Int)

def kf (x3 : Int) (x5 : List (Int × Int)) : Bool :=
  Prod.fst (kz x3 x5) == (3 : Int)

def ki (x3 : Int) (x5 : List (Int × Int)) : Bool :=
  Prod.fst (kz x3 x5) == (4 : Int)

def kk (x3 : Int) (x5 : List (Int × Int)) : Bool :=
  Prod.fst (kz x3 x5) == (5 : Int)

def ko (x3 : Int) (x5 : List (Int × Int)) : Bool :=
  Prod.fst (kz x3 x5) == (6 : Int)

def k15 (x3 : Int) (x5 : List (Int × Int)) : Bool :=
  Prod.fst (kz x3 x5) == (7 : Int)

def k19 (x3 : Int) (x5 : List (Int × Int)) : Bool :=
  Prod.fst (kz x3 x5) == (8 : Int)

def k1q (x3 : Int) (x5 : List (Int × Int)) : Bool :=
  Prod.fst (kz x3 x5) == (9 : Int)

def k2l (x3 : Int) (x5 : List (Int × Int)) : Bool :=
  Prod.fst (kz x3 x5) == (10 : Int)

def k5i (x3 : Int) (x5 : List (Int × Int)) : Bool :=
  Prod.fst (kz x3 x5) == (11 : Int)

def kei (x3 : Int) (x4 : List (Int × ByteArray × Int)) (x5 : List (Int × Int)) (x6 : List Int) : Int :=
  IntKind.wrap IntKind.i64 ((↑(List.length x6) : Int) - k3l (Prod.fst (kz x3 x5)) (Prod.snd (kz x3 x5)) x4)

def k1d (x3 : Int) (x4 : List (Int × ByteArray × Int)) (x5 : List (Int × Int)) (x6 : List Int) : List Int :=
  List.drop (Int.toNat (0 : Int)) (List.take (Int.toNat (kei x3 x4 x5 x6)) x6)

def kee (x3 : Int) (x5 : List (Int × Int)) (x10 : List Int) : Int :=
  Option.getD x10[Int.toNat (Prod.snd (kz x3 x5))]? (0 : Int)

def ke9 (x3 : Int) (x5 : List (Int × Int)) (x7 : List Int) : Int :=
  Option.getD x7[Int.toNat (Prod.snd (kz x3 x5))]? (0 : Int)

def k5h (x3 : Int) (x4 : List (Int × ByteArray × Int)) (x5 : List (Int × Int)) (x6 : List Int) : List Int :=
  List.drop (Int.toNat (kei x3 x4 x5 x6)) (List.take (Int.toNat (↑(List.length x6) : Int)) x6)

def kgf (x3 : Int) (x4 : List (Int × ByteArray × Int)) (x5 : List (Int × Int)) (x6 : List Int) : Int :=
  Option.getD (k5h x3 x4 x5 x6)[Int.toNat (0 : Int)]? (0 : Int)

def k4i (x3 : Int) (x4 : List (Int × ByteArray × Int)) (x5 : List (Int × Int)) (x6 : List Int) : List Int :=
  [IntKind.wrap IntKind.i64 ((1 : Int) - kgf x3 x4 x5 x6)]

def k4m (x3 : Int) (x4 : List (Int × ByteArray × Int)) (x5 : List (Int × Int)) (x6 : List Int) : List Int :=
  [IntKind.wrap IntKind.i64
    (↑(BitVec.toNat
          (BitVec.ofInt (IntKind.bits IntKind.i64) (kgf x3 x4 x5 x6) &&&
            BitVec.ofInt (IntKind.bits IntKind.i64) (Option.getD (k5h x3 x4 x5 x6)[Int.toNat (1 : Int)]? (0 : Int)))) :
      Int)]

def k4n (x3 : Int) (x4 : List (Int × ByteArray × Int)) (x5 : List (Int × Int)) (x6 : List Int) : List Int :=
  [IntKind.wrap IntKind.i64
    (↑(BitVec.toNat
          (BitVec.ofInt (IntKind.bits IntKind.i64) (kgf x3 x4 x5 x6) |||
            BitVec.ofInt (IntKind.bits IntKind.i64) (Option.getD (k5h x3 x4 x5 x6)[Int.toNat (1 : Int)]? (0 : Int)))) :
      Int)]

def kct (x3 : Int) (x4 : List (Int × ByteArray × Int)) (x5 : List (Int × Int)) : Int × ByteArray × Int :=
  Option.getD x4[Int.toNat (Prod.snd (kz x3 x5))]? ((0 : Int), ByteArray.empty, (0 : Int))

def k89 (x3 : Int) (x5 : List (Int × Int)) (x9 : List (Int × Int × Int)) : Int × Int × Int :=
  Option.getD x9[Int.toNat (Prod.snd (kz x3 x5))]? ((0 : Int), (0 : Int), (0 : Int))

def k4j (x3 : Int) (x4 : List (Int × ByteArray × Int)) (x5 : List (Int × Int)) (x6 : List Int) (x9 : List (Int × Int × Int)) : List Int :=
  [k45 (Prod.fst (kct x3 x4 x5)) (Prod.snd (Prod.snd (kct x3 x4 x5))) (Prod.fst (k89 x3 x5 x9))
    (Prod.fst (Prod.snd (k89 x3 x5 x9))) (Prod.snd (Prod.snd (k89 x3 x5 x9))) (k5h x3 x4 x5 x6)]

def kfv (x3 : Int) (x4 : List (Int × ByteArray × Int)) (x5 : List (Int × Int)) (x6 : List Int) : List Int :=
  bif kd x3 x5 then k1d x3 x4 x5 x6 ++ [(0 : Int)] else k1d x3 x4 x5 x6

def kor (x3 : Int) (x4 : List (Int × ByteArray × Int)) (x5 : List (Int × Int)) (x6 : List Int) (x7 : List Int) : List Int :=
  List.set x7 (Int.toNat (Prod.snd (kz x3 x5))) (kgf x3 x4 x5 x6)

def ko3 (x3 : Int) (x4 : List (Int × ByteArray × Int)) (x5 : List (Int × Int)) (x6 : List Int) (x8 : List Int) : List Int :=
  List.set x8 (Int.toNat (Prod.snd (kz x3 x5))) (kgf x3 x4 x5 x6)

def ko1 (x3 : Int) (x4 : List (Int × ByteArray × Int)) (x5 : List (Int × Int)) (x6 : List Int) (x9 : List (Int × Int × Int)) : List (Int × Int × Int) :=
  List.set x9 (Int.toNat (Prod.snd (kz x3 x5)))
  (k66 (Prod.fst (kct x3 x4 x5)) (Prod.snd (Prod.snd (kct x3 x4 x5))) (Prod.fst (k89 x3 x5 x9))
      (Prod.fst (Prod.snd (k89 x3 x5 x9))) (Prod.snd (Prod.snd (k89 x3 x5 x9))) (k5h x3 x4 x5 x6),
    k65 (Prod.fst (kct x3 x4 x5)) (Prod.fst (Prod.snd (k89 x3 x5 x9)))
      (Prod.snd (Prod.snd (k89 x3 x5 x9))) (k5h x3 x4 x5 x6),
    k60 (Prod.fst (kct x3 x4 x5)) (Prod.snd (Prod.snd (kct x3 x4 x5))) (Prod.fst (k89 x3 x5 x9))
      (Prod.snd (Prod.snd (k89 x3 x5 x9))) (k5h x3 x4 x5 x6))

def k72 (x3 : Int) (x5 : List (Int × Int)) (x10 : List Int) : Bool :=
  ltI (Prod.snd (kz x3 x5)) (↑(List.length x10) : Int)

def k5z (x3 : Int) (x5 : List (Int × Int)) (x7 : List Int) : Bool :=
  ltI (Prod.snd (kz x3 x5)) (↑(List.length x7) : Int)

def k4o (x3 : Int) (x4 : List (Int × ByteArray × Int)) (x5 : List (Int × Int)) (x6 : List Int) : Bool :=
  ltI (0 : Int) (↑(List.length (k5h x3 x4 x5 x6)) : Int)

def k4k (x3 : Int) (x4 : List (Int × ByteArray × Int)) (x5 : List (Int × Int)) (x6 : List Int) : Bool :=
  ltN (Int.toNat (0 : Int)) (List.length (k5h x3 x4 x5 x6))

def k6x (x3 : Int) (x4 : List (Int × ByteArray × Int)) (x5 : List (Int × Int)) (x6 : List Int) : Bool :=
  ltI (1 : Int) (↑(List.length (k5h x3 x4 x5 x6)) : Int)

def k77 (x3 : Int) (x4 : List (Int × ByteArray × Int)) (x5 : List (Int × Int)) (x6 : List Int) : Bool :=
  ltN (Int.toNat (1 : Int)) (List.length (k5h x3 x4 x5 x6))

def k61 (x3 : Int) (x5 : List (Int × Int)) : Bool :=
  ka x3 x5 ||
  (kb x3 x5 ||
    (kf x3 x5 ||
      (ki x3 x5 ||
        (kk x3 x5 || (ko x3 x5 || (!k15 x3 x5 || leI (0 : Int) (Prod.snd (kz x3 x5))))))))

def k6z (x3 : Int) (x5 : List (Int × Int)) (x9 : List (Int × Int × Int)) : Bool :=
  ka x3 x5 ||
  (kb x3 x5 ||
    (kf x3 x5 ||
      (ki x3 x5 ||
        (kk x3 x5 ||
          (ko x3 x5 || (!k15 x3 x5 || ltI (Prod.snd (kz x3 x5)) (↑(List.length x9) : Int)))))))

def k6v (x3 : Int) (x5 : List (Int × Int)) (x9 : List (Int × Int × Int)) : Bool :=
  ka x3 x5 ||
  (kb x3 x5 ||
    (kf x3 x5 ||
      (ki x3 x5 ||
        (kk x3 x5 ||
          (ko x3 x5 || (!k15 x3 x5 || ltN (Int.toNat (Prod.snd (kz x3 x5))) (List.length x9)))))))

def k4l (x3 : Int) (x4 : List (Int × ByteArray × Int)) (x5 : List (Int × Int)) (x6 : List Int) : Bool :=
  !kd x3 x5 || leN (List.length (k1d x3 x4 x5 x6) + List.length [(0 : Int)]) (9223372036854775807 : Nat)

def k4g (x3 : Int) (x4 : List (Int × ByteArray × Int)) (x5 : List (Int × Int)) (x6 : List Int) : Bool :=
  !kd x3 x5 || leN ((List.length (k1d x3 x4 x5 x6) + List.length [(0 : Int)]) * (8 : Nat)) (140737488355328 : Nat)

def koe (x3 : Int) (x5 : List (Int × Int)) : Int :=
  bif ka x3 x5 then bif kd x3 x5 then k2c x3 else k2c x3
  else
  bif kb x3 x5 then bif kd x3 x5 then k2c x3 else k2c x3
  else
    bif kf x3 x5 then bif kd x3 x5 then k2c x3 else k2c x3
    else
      bif ki x3 x5 then bif kd x3 x5 then k2c x3 else k2c x3
      else
        bif kk x3 x5 then bif kd x3 x5 then k2c x3 else k2c x3
        else
          bif ko x3 x5 then bif kd x3 x5 then k2c x3 else k2c x3
          else
            bif k15 x3 x5 then bif kd x3 x5 then k2c x3 else k2c x3
            else
              bif k19 x3 x5 then bif kd x3 x5 then k2c x3 else k2c x3
              else
                bif k1q x3 x5 then bif kd x3 x5 then k2c x3 else k2c x3
                else
                  bif k2l x3 x5 then bif kd x3 x5 then k2c x3 else k2c x3
                  else
                    bif k5i x3 x5 then bif kd x3 x5 then k2c x3 else k2c x3
                    else bif kd x3 x5 then k2c x3 else k2c x3

def ko2 (x3 : Int) (x4 : List (Int × ByteArray × Int)) (x5 : List (Int × Int)) (x6 : List Int) (x7 : List Int) (x9 : List (Int × Int × Int)) (x10 : List Int) : List Int :=
  bif ka x3 x5 then
  bif kd x3 x5 then k1d x3 x4 x5 x6 ++ [Prod.snd (kz x3 x5)] else k1d x3 x4 x5 x6
  else
  bif kb x3 x5 then
    bif kd x3 x5 then k1d x3 x4 x5 x6 ++ [kee x3 x5 x10] else k1d x3 x4 x5 x6
  else
    bif kf x3 x5 then
      bif kd x3 x5 then k1d x3 x4 x5 x6 ++ [ke9 x3 x5 x7] else k1d x3 x4 x5 x6
    else
      bif ki x3 x5 then
        bif kd x3 x5 then k1d x3 x4 x5 x6 ++ k4i x3 x4 x5 x6 else k1d x3 x4 x5 x6
      else
        bif kk x3 x5 then
          bif kd x3 x5 then k1d x3 x4 x5 x6 ++ k4m x3 x4 x5 x6 else k1d x3 x4 x5 x6
        else
          bif ko x3 x5 then
            bif kd x3 x5 then k1d x3 x4 x5 x6 ++ k4n x3 x4 x5 x6 else k1d x3 x4 x5 x6
          else
            bif k15 x3 x5 then
              bif kd x3 x5 then k1d x3 x4 x5 x6 ++ k4j x3 x4 x5 x6 x9 else k1d x3 x4 x5 x6
            else
              bif k19 x3 x5 then kfv x3 x4 x5 x6
              else
                bif k1q x3 x5 then kfv x3 x4 x5 x6
                else
                  bif k2l x3 x5 then kfv x3 x4 x5 x6
                  else bif k5i x3 x5 then kfv x3 x4 x5 x6 else kfv x3 x4 x5 x6

def kqv (x3 : Int) (x4 : List (Int × ByteArray × Int)) (x5 : List (Int × Int)) (x6 : List Int) (x7 : List Int) : List Int :=
  bif ka x3 x5 then bif kd x3 x5 then x7 else x7
  else
  bif kb x3 x5 then bif kd x3 x5 then x7 else x7
  else
    bif kf x3 x5 then bif kd x3 x5 then x7 else x7
    else
      bif ki x3 x5 then bif kd x3 x5 then x7 else x7
      else
        bif kk x3 x5 then bif kd x3 x5 then x7 else x7
        else
          bif ko x3 x5 then bif kd x3 x5 then x7 else x7
          else
            bif k15 x3 x5 then bif kd x3 x5 then x7 else x7
            else
              bif k19 x3 x5 then bif kd x3 x5 then kor x3 x4 x5 x6 x7 else kor x3 x4 x5 x6 x7
              else
                bif k1q x3 x5 then bif kd x3 x5 then x7 else x7
                else
                  bif k2l x3 x5 then bif kd x3 x5 then x7 else x7
                  else bif k5i x3 x5 then bif kd x3 x5 then x7 else x7 else bif kd x3 x5 then x7 else x7

def kqy (x3 : Int) (x4 : List (Int × ByteArray × Int)) (x5 : List (Int × Int)) (x6 : List Int) (x7 : List Int) (x8 : List Int) (x10 : List Int) : List Int :=
  bif ka x3 x5 then bif kd x3 x5 then x8 else x8
  else
  bif kb x3 x5 then bif kd x3 x5 then x8 else x8
  else
    bif kf x3 x5 then bif kd x3 x5 then x8 else x8
    else
      bif ki x3 x5 then bif kd x3 x5 then x8 else x8
      else
        bif kk x3 x5 then bif kd x3 x5 then x8 else x8
        else
          bif ko x3 x5 then bif kd x3 x5 then x8 else x8
          else
            bif k15 x3 x5 then bif kd x3 x5 then x8 else x8
            else
              bif k19 x3 x5 then bif kd x3 x5 then x8 else x8
              else
                bif k1q x3 x5 then bif kd x3 x5 then ko3 x3 x4 x5 x6 x8 else ko3 x3 x4 x5 x6 x8
                else
                  bif k2l x3 x5 then
                    bif kd x3 x5 then kjw (kee x3 x5 x10) x8 else kjw (kee x3 x5 x10) x8
                  else
                    bif k5i x3 x5 then
                      bif kd x3 x5 then kjw (ke9 x3 x5 x7) x8 else kjw (ke9 x3 x5 x7) x8
                    else bif kd x3 x5 then x8 else x8

def kqs (x3 : Int) (x4 : List (Int × ByteArray × Int)) (x5 : List (Int × Int)) (x6 : List Int) (x9 : List (Int × Int × Int)) : List (Int × (Int × Int)) :=
  bif ka x3 x5 then bif kd x3 x5 then x9 else x9
  else
  bif kb x3 x5 then bif kd x3 x5 then x9 else x9
  else
    bif kf x3 x5 then bif kd x3 x5 then x9 else x9
    else
      bif ki x3 x5 then bif kd x3 x5 then x9 else x9
      else
        bif kk x3 x5 then bif kd x3 x5 then x9 else x9
        else
          bif ko x3 x5 then bif kd x3 x5 then x9 else x9
          else
            bif k15 x3 x5 then bif kd x3 x5 then ko1 x3 x4 x5 x6 x9 else ko1 x3 x4 x5 x6 x9
            else
              bif k19 x3 x5 then bif kd x3 x5 then x9 else x9
              else
                bif k1q x3 x5 then bif kd x3 x5 then x9 else x9
                else
                  bif k2l x3 x5 then bif kd x3 x5 then x9 else x9
                  else bif k5i x3 x5 then bif kd x3 x5 then x9 else x9 else bif kd x3 x5 then x9 else x9

def k90 (x3 : Int) (x4 : List (Int × ByteArray × Int)) (x5 : List (Int × Int)) (x6 : List Int) (x7 : List Int) (x8 : List Int) (x9 : List (Int × Int × Int)) (x10 : List Int) : Bool :=
  allT
  [leI (0 : Int) x3, ltI x3 (↑(List.length x5) : Int), ltN (Int.toNat x3) (List.length x5),
    kfg (Prod.fst (kz x3 x5)) (Prod.snd (kz x3 x5)) x4, leI (0 : Int) (kei x3 x4 x5 x6),
    leI (kei x3 x4 x5 x6) (↑(List.length x6) : Int), leI (↑(List.length x6) : Int) (↑(List.length x6) : Int),
    leN (List.length (k5h x3 x4 x5 x6)) (1048576 : Nat), leI (0 : Int) (kei x3 x4 x5 x6),
    leI (kei x3 x4 x5 x6) (↑(List.length x6) : Int), leN (List.length (k1d x3 x4 x5 x6)) (1048576 : Nat),
    leN (List.length x7) (1048576 : Nat), leN (List.length x8) (1048576 : Nat), leN ((0 : Nat) + List.length x9) (9223372036854775807 : Nat),
    leN (((0 : Nat) + List.length x9) * (24 : Nat)) (140737488355328 : Nat),
    ka x3 x5 || (!kb x3 x5 || leI (0 : Int) (Prod.snd (kz x3 x5))),
    ka x3 x5 || (!kb x3 x5 || k72 x3 x5 x10),
    ka x3 x5 || (!kb x3 x5 || ltN (Int.toNat (Prod.snd (kz x3 x5))) (List.length x10)),
    ka x3 x5 || (kb x3 x5 || (!kf x3 x5 || leI (0 : Int) (Prod.snd (kz x3 x5)))),
    ka x3 x5 || (kb x3 x5 || (!kf x3 x5 || k5z x3 x5 x7)),
    ka x3 x5 ||
      (kb x3 x5 || (!kf x3 x5 || ltN (Int.toNat (Prod.snd (kz x3 x5))) (List.length x7))),
    ka x3 x5 || (kb x3 x5 || (kf x3 x5 || (!ki x3 x5 || leI (0 : Int) (0 : Int)))),
    ka x3 x5 || (kb x3 x5 || (kf x3 x5 || (!ki x3 x5 || k4o x3 x4 x5 x6))),
    ka x3 x5 || (kb x3 x5 || (kf x3 x5 || (!ki x3 x5 || k4k x3 x4 x5 x6))),
    ka x3 x5 ||
      (kb x3 x5 || (kf x3 x5 || (ki x3 x5 || (!kk x3 x5 || leI (0 : Int) (0 : Int))))),
    ka x3 x5 ||
      (kb x3 x5 || (kf x3 x5 || (ki x3 x5 || (!kk x3 x5 || k4o x3 x4 x5 x6)))),
    ka x3 x5 ||
      (kb x3 x5 || (kf x3 x5 || (ki x3 x5 || (!kk x3 x5 || k4k x3 x4 x5 x6)))),
    ka x3 x5 ||
      (kb x3 x5 || (kf x3 x5 || (ki x3 x5 || (!kk x3 x5 || leI (0 : Int) (1 : Int))))),
    ka x3 x5 ||
      (kb x3 x5 || (kf x3 x5 || (ki x3 x5 || (!kk x3 x5 || k6x x3 x4 x5 x6)))),
    ka x3 x5 ||
      (kb x3 x5 || (kf x3 x5 || (ki x3 x5 || (!kk x3 x5 || k77 x3 x4 x5 x6)))),
    ka x3 x5 ||
      (kb x3 x5 ||
        (kf x3 x5 || (ki x3 x5 || (kk x3 x5 || (!ko x3 x5 || leI (0 : Int) (0 : Int)))))),
    ka x3 x5 ||
      (kb x3 x5 ||
        (kf x3 x5 || (ki x3 x5 || (kk x3 x5 || (!ko x3 x5 || k4o x3 x4 x5 x6))))),
    ka x3 x5 ||
      (kb x3 x5 ||
        (kf x3 x5 || (ki x3 x5 || (kk x3 x5 || (!ko x3 x5 || k4k x3 x4 x5 x6))))),
    ka x3 x5 ||
      (kb x3 x5 ||
        (kf x3 x5 || (ki x3 x5 || (kk x3 x5 || (!ko x3 x5 || leI (0 : Int) (1 : Int)))))),
    ka x3 x5 ||
      (kb x3 x5 ||
        (kf x3 x5 || (ki x3 x5 || (kk x3 x5 || (!ko x3 x5 || k6x x3 x4 x5 x6))))),
    ka x3 x5 ||
      (kb x3 x5 ||
        (kf x3 x5 || (ki x3 x5 || (kk x3 x5 || (!ko x3 x5 || k77 x3 x4 x5 x6))))),
    k61 x3 x5,
    ka x3 x5 ||
      (kb x3 x5 ||
        (kf x3 x5 ||
          (ki x3 x5 ||
            (kk x3 x5 ||
              (ko x3 x5 || (!k15 x3 x5 || ltI (Prod.snd (kz x3 x5)) (↑(List.length x4) : Int))))))),
    ka x3 x5 ||
      (kb x3 x5 ||
        (kf x3 x5 ||
          (ki x3 x5 ||
            (kk x3 x5 ||
              (ko x3 x5 || (!k15 x3 x5 || ltN (Int.toNat (Prod.snd (kz x3 x5))) (List.length x4))))))),
    k61 x3 x5, k6z x3 x5 x9, k6v x3 x5 x9,
    ka x3 x5 ||
      (kb x3 x5 ||
        (kf x3 x5 ||
          (ki x3 x5 ||
            (kk x3 x5 || (ko x3 x5 || (!k15 x3 x5 || k7v (k5h x3 x4 x5 x6))))))),
    k61 x3 x5, k6z x3 x5 x9, k6v x3 x5 x9,
    ka x3 x5 ||
      (kb x3 x5 ||
        (kf x3 x5 ||
          (ki x3 x5 ||
            (kk x3 x5 || (ko x3 x5 || (k15 x3 x5 || (!k19 x3 x5 || leI (0 : Int) (0 : Int)))))))),
    ka x3 x5 ||
      (kb x3 x5 ||
        (kf x3 x5 ||
          (ki x3 x5 ||
            (kk x3 x5 ||
              (ko x3 x5 || (k15 x3 x5 || (!k19 x3 x5 || k4o x3 x4 x5 x6))))))),
    ka x3 x5 ||
      (kb x3 x5 ||
        (kf x3 x5 ||
          (ki x3 x5 ||
            (kk x3 x5 ||
              (ko x3 x5 || (k15 x3 x5 || (!k19 x3 x5 || k4k x3 x4 x5 x6))))))),
    ka x3 x5 ||
      (kb x3 x5 ||
        (kf x3 x5 ||
          (ki x3 x5 ||
            (kk x3 x5 ||
              (ko x3 x5 || (k15 x3 x5 || (!k19 x3 x5 || leI (0 : Int) (Prod.snd (kz x3 x5))))))))),
    ka x3 x5 ||
      (kb x3 x5 ||
        (kf x3 x5 ||
          (ki x3 x5 ||
            (kk x3 x5 ||
              (ko x3 x5 || (k15 x3 x5 || (!k19 x3 x5 || k5z x3 x5 x7))))))),
    ka x3 x5 ||
      (kb x3 x5 ||
        (kf x3 x5 ||
          (ki x3 x5 ||
            (kk x3 x5 ||
              (ko x3 x5 ||
                (k15 x3 x5 || (!k19 x3 x5 || ltN (Int.toNat (Prod.snd (kz x3 x5))) (List.length x7)))))))),
    ka x3 x5 ||
      (kb x3 x5 ||
        (kf x3 x5 ||
          (ki x3 x5 ||
            (kk x3 x5 ||
              (ko x3 x5 ||
                (k15 x3 x5 || (k19 x3 x5 || (!k1q x3 x5 || leI (0 : Int) (0 : Int))))))))),
    ka x3 x5 ||
      (kb x3 x5 ||
        (kf x3 x5 ||
          (ki x3 x5 ||
            (kk x3 x5 ||
              (ko x3 x5 ||
                (k15 x3 x5 || (k19 x3 x5 || (!k1q x3 x5 || k4o x3 x4 x5 x6)))))))),
    ka x3 x5 ||
      (kb x3 x5 ||
        (kf x3 x5 ||
          (ki x3 x5 ||
            (kk x3 x5 ||
              (ko x3 x5 ||
                (k15 x3 x5 || (k19 x3 x5 || (!k1q x3 x5 || k4k x3 x4 x5 x6)))))))),
    ka x3 x5 ||
      (kb x3 x5 ||
        (kf x3 x5 ||
          (ki x3 x5 ||
            (kk x3 x5 ||
              (ko x3 x5 ||
                (k15 x3 x5 ||
                  (k19 x3 x5 || (!k1q x3 x5 || leI (0 : Int) (Prod.snd (kz x3 x5)))))))))),
    ka x3 x5 ||
      (kb x3 x5 ||
        (kf x3 x5 ||
          (ki x3 x5 ||
            (kk x3 x5 ||
              (ko x3 x5 ||
                (k15 x3 x5 ||
                  (k19 x3 x5 || (!k1q x3 x5 || ltI (Prod.snd (kz x3 x5)) (↑(List.length x8) : Int))))))))),
    ka x3 x5 ||
      (kb x3 x5 ||
        (kf x3 x5 ||
          (ki x3 x5 ||
            (kk x3 x5 ||
              (ko x3 x5 ||
                (k15 x3 x5 ||
                  (k19 x3 x5 || (!k1q x3 x5 || ltN (Int.toNat (Prod.snd (kz x3 x5))) (List.length x8))))))))),
    ka x3 x5 ||
      (kb x3 x5 ||
        (kf x3 x5 ||
          (ki x3 x5 ||
            (kk x3 x5 ||
              (ko x3 x5 ||
                (k15 x3 x5 ||
                  (k19 x3 x5 ||
                    (k1q x3 x5 || (!k2l x3 x5 || leI (0 : Int) (Prod.snd (kz x3 x5))))))))))),
    ka x3 x5 ||
      (kb x3 x5 ||
        (kf x3 x5 ||
          (ki x3 x5 ||
            (kk x3 x5 ||
              (ko x3 x5 ||
                (k15 x3 x5 ||
                  (k19 x3 x5 || (k1q x3 x5 || (!k2l x3 x5 || k72 x3 x5 x10))))))))),
    ka x3 x5 ||
      (kb x3 x5 ||
        (kf x3 x5 ||
          (ki x3 x5 ||
            (kk x3 x5 ||
              (ko x3 x5 ||
                (k15 x3 x5 ||
                  (k19 x3 x5 ||
                    (k1q x3 x5 ||
                      (!k2l x3 x5 || ltN (Int.toNat (Prod.snd (kz x3 x5))) (List.length x10)))))))))),
    ka x3 x5 ||
      (kb x3 x5 ||
        (kf x3 x5 ||
          (ki x3 x5 ||
            (kk x3 x5 ||
              (ko x3 x5 ||
                (k15 x3 x5 ||
                  (k19 x3 x5 ||
                    (k1q x3 x5 || (!k2l x3 x5 || kjq (kee x3 x5 x10) x8))))))))),
    ka x3 x5 ||
      (kb x3 x5 ||
        (kf x3 x5 ||
          (ki x3 x5 ||
            (kk x3 x5 ||
              (ko x3 x5 ||
                (k15 x3 x5 ||
                  (k19 x3 x5 ||
                    (k1q x3 x5 ||
                      (k2l x3 x5 || (!k5i x3 x5 || leI (0 : Int) (Prod.snd (kz x3 x5)))))))))))),
    ka x3 x5 ||
      (kb x3 x5 ||
        (kf x3 x5 ||
          (ki x3 x5 ||
            (kk x3 x5 ||
              (ko x3 x5 ||
                (k15 x3 x5 ||
                  (k19 x3 x5 ||
                    (k1q x3 x5 || (k2l x3 x5 || (!k5i x3 x5 || k5z x3 x5 x7)))))))))),
    ka x3 x5 ||
      (kb x3 x5 ||
        (kf x3 x5 ||
          (ki x3 x5 ||
            (kk x3 x5 ||
              (ko x3 x5 ||
                (k15 x3 x5 ||
                  (k19 x3 x5 ||
                    (k1q x3 x5 ||
                      (k2l x3 x5 ||
                        (!k5i x3 x5 || ltN (Int.toNat (Prod.snd (kz x3 x5))) (List.length x7))))))))))),
    ka x3 x5 ||
      (kb x3 x5 ||
        (kf x3 x5 ||
          (ki x3 x5 ||
            (kk x3 x5 ||
              (ko x3 x5 ||
                (k15 x3 x5 ||
                  (k19 x3 x5 ||
                    (k1q x3 x5 ||
                      (k2l x3 x5 || (!k5i x3 x5 || kjq (ke9 x3 x5 x7) x8)))))))))),
    !ka x3 x5 ||
      (!kd x3 x5 ||
        leN (List.length (k1d x3 x4 x5 x6) + List.length [Prod.snd (kz x3 x5)]) (9223372036854775807 : Nat)),
    !ka x3 x5 ||
      (!kd x3 x5 ||
        leN ((List.length (k1d x3 x4 x5 x6) + List.length [Prod.snd (kz x3 x5)]) * (8 : Nat)) (140737488355328 : Nat)),
    ka x3 x5 ||
      (!kb x3 x5 ||
        (!kd x3 x5 ||
          leN (List.length (k1d x3 x4 x5 x6) + List.length [kee x3 x5 x10]) (9223372036854775807 : Nat))),
    ka x3 x5 ||
      (!kb x3 x5 ||
        (!kd x3 x5 ||
          leN ((List.length (k1d x3 x4 x5 x6) + List.length [kee x3 x5 x10]) * (8 : Nat)) (140737488355328 : Nat))),
    ka x3 x5 ||
      (kb x3 x5 ||
        (!kf x3 x5 ||
          (!kd x3 x5 ||
            leN (List.length (k1d x3 x4 x5 x6) + List.length [ke9 x3 x5 x7]) (9223372036854775807 : Nat)))),
    ka x3 x5 ||
      (kb x3 x5 ||
        (!kf x3 x5 ||
          (!kd x3 x5 ||
            leN ((List.length (k1d x3 x4 x5 x6) + List.length [ke9 x3 x5 x7]) * (8 : Nat)) (140737488355328 : Nat)))),
    ka x3 x5 ||
      (kb x3 x5 ||
        (kf x3 x5 ||
          (!ki x3 x5 ||
            (!kd x3 x5 ||
              leN (List.length (k1d x3 x4 x5 x6) + List.length (k4i x3 x4 x5 x6)) (9223372036854775807 : Nat))))),
    ka x3 x5 ||
      (kb x3 x5 ||
        (kf x3 x5 ||
          (!ki x3 x5 ||
            (!kd x3 x5 ||
              leN ((List.length (k1d x3 x4 x5 x6) + List.length (k4i x3 x4 x5 x6)) * (8 : Nat)) (140737488355328 : Nat))))),
    ka x3 x5 ||
      (kb x3 x5 ||
        (kf x3 x5 ||
          (ki x3 x5 ||
            (!kk x3 x5 ||
              (!kd x3 x5 ||
                leN (List.length (k1d x3 x4 x5 x6) + List.length (k4m x3 x4 x5 x6)) (9223372036854775807 : Nat)))))),
    ka x3 x5 ||
      (kb x3 x5 ||
        (kf x3 x5 ||
          (ki x3 x5 ||
            (!kk x3 x5 ||
              (!kd x3 x5 ||
                leN ((List.length (k1d x3 x4 x5 x6) + List.length (k4m x3 x4 x5 x6)) * (8 : Nat))
                  (140737488355328 : Nat)))))),
    ka x3 x5 ||
      (kb x3 x5 ||
        (kf x3 x5 ||
          (ki x3 x5 ||
            (kk x3 x5 ||
              (!ko x3 x5 ||
                (!kd x3 x5 ||
                  leN (List.length (k1d x3 x4 x5 x6) + List.length (k4n x3 x4 x5 x6)) (9223372036854775807 : Nat))))))),
    ka x3 x5 ||
      (kb x3 x5 ||
        (kf x3 x5 ||
          (ki x3 x5 ||
            (kk x3 x5 ||
              (!ko x3 x5 ||
                (!kd x3 x5 ||
                  leN ((List.length (k1d x3 x4 x5 x6) + List.length (k4n x3 x4 x5 x6)) * (8 : Nat))
                    (140737488355328 : Nat))))))),
    ka x3 x5 ||
      (kb x3 x5 ||
        (kf x3 x5 ||
          (ki x3 x5 ||
            (kk x3 x5 ||
              (ko x3 x5 ||
                (!k15 x3 x5 ||
                  (!kd x3 x5 ||
                    leN (List.length (k1d x3 x4 x5 x6) + List.length (k4j x3 x4 x5 x6 x9))
                      (9223372036854775807 : Nat)))))))),
    ka x3 x5 ||
      (kb x3 x5 ||
        (kf x3 x5 ||
          (ki x3 x5 ||
            (kk x3 x5 ||
              (ko x3 x5 ||
                (!k15 x3 x5 ||
                  (!kd x3 x5 ||
                    leN ((List.length (k1d x3 x4 x5 x6) + List.length (k4j x3 x4 x5 x6 x9)) * (8 : Nat))
                      (140737488355328 : Nat)))))))),
    ka x3 x5 ||
      (kb x3 x5 ||
        (kf x3 x5 ||
          (ki x3 x5 ||
            (kk x3 x5 ||
              (ko x3 x5 || (k15 x3 x5 || (!k19 x3 x5 || k4l x3 x4 x5 x6))))))),
    ka x3 x5 ||
      (kb x3 x5 ||
        (kf x3 x5 ||
          (ki x3 x5 ||
            (kk x3 x5 ||
              (ko x3 x5 || (k15 x3 x5 || (!k19 x3 x5 || k4g x3 x4 x5 x6))))))),
    ka x3 x5 ||
      (kb x3 x5 ||
        (kf x3 x5 ||
          (ki x3 x5 ||
            (kk x3 x5 ||
              (ko x3 x5 ||
                (k15 x3 x5 || (k19 x3 x5 || (!k1q x3 x5 || k4l x3 x4 x5 x6)))))))),
    ka x3 x5 ||
      (kb x3 x5 ||
        (kf x3 x5 ||
          (ki x3 x5 ||
            (kk x3 x5 ||
              (ko x3 x5 ||
                (k15 x3 x5 || (k19 x3 x5 || (!k1q x3 x5 || k4g x3 x4 x5 x6)))))))),
    ka x3 x5 ||
      (kb x3 x5 ||
        (kf x3 x5 ||
          (ki x3 x5 ||
            (kk x3 x5 ||
              (ko x3 x5 ||
                (k15 x3 x5 ||
                  (k19 x3 x5 || (k1q x3 x5 || (!k2l x3 x5 || k4l x3 x4 x5 x6))))))))),
    ka x3 x5 ||
      (kb x3 x5 ||
        (kf x3 x5 ||
          (ki x3 x5 ||
            (kk x3 x5 ||
              (ko x3 x5 ||
                (k15 x3 x5 ||
                  (k19 x3 x5 || (k1q x3 x5 || (!k2l x3 x5 || k4g x3 x4 x5 x6))))))))),
    ka x3 x5 ||
      (kb x3 x5 ||
        (kf x3 x5 ||
          (ki x3 x5 ||
            (kk x3 x5 ||
              (ko x3 x5 ||
                (k15 x3 x5 ||
                  (k19 x3 x5 ||
                    (k1q x3 x5 || (k2l x3 x5 || (!k5i x3 x5 || k4l x3 x4 x5 x6)))))))))),
    ka x3 x5 ||
      (kb x3 x5 ||
        (kf x3 x5 ||
          (ki x3 x5 ||
            (kk x3 x5 ||
              (ko x3 x5 ||
                (k15 x3 x5 ||
                  (k19 x3 x5 ||
                    (k1q x3 x5 || (k2l x3 x5 || (!k5i x3 x5 || k4g x3 x4 x5 x6)))))))))),
    ka x3 x5 ||
      (kb x3 x5 ||
        (kf x3 x5 ||
          (ki x3 x5 ||
            (kk x3 x5 ||
              (ko x3 x5 ||
                (k15 x3 x5 ||
                  (k19 x3 x5 ||
                    (k1q x3 x5 || (k2l x3 x5 || (k5i x3 x5 || k4l x3 x4 x5 x6)))))))))),
    ka x3 x5 ||
      (kb x3 x5 ||
        (kf x3 x5 ||
          (ki x3 x5 ||
            (kk x3 x5 ||
              (ko x3 x5 ||
                (k15 x3 x5 ||
                  (k19 x3 x5 ||
                    (k1q x3 x5 || (k2l x3 x5 || (k5i x3 x5 || k4g x3 x4 x5 x6))))))))))]

def kz7 : List SV → List Entry → Option Out
  | [.one ⟨true, [.val (.int .i64 _x0), .val (.int .i64 _x1), .val (.int .i64 _x2), .ref 0, .ref 1]⟩, .one ⟨true, [.val (.int .i64 x3), .ref 2, .ref 3, .ref 4, .ref 5]⟩, .one ⟨false, [.ref 6]⟩], [.row false 178 (.pair (.int .i64) (.pair (.str) (.int .i64))) x4, .row false 150 (.pair (.int .i64) (.int .i64)) x5, .row false 2 (.int .i64) x6, .row false 2 (.int .i64) x7, .row false 2 (.int .i64) x8, .row false 172 (.pair (.int .i64) (.pair (.int .i64) (.int .i64))) x9, .row false 2 (.int .i64) x10] => some ⟨(.one ⟨true, [(.val (.int IntKind.i64 (koe x3 x5))), (.ref 7), (.ref 8), (.ref 9), (.ref 10)]⟩), [(.row false 178 (CTy.pair (CTy.int IntKind.i64) (CTy.pair CTy.str (CTy.int IntKind.i64))) x4), (.row false 150 (CTy.pair (CTy.int IntKind.i64) (CTy.int IntKind.i64)) x5), (.row false 2 (CTy.int IntKind.i64) x6), (.row false 2 (CTy.int IntKind.i64) x7), (.row false 2 (CTy.int IntKind.i64) x8), (.row false 172 (CTy.pair (CTy.int IntKind.i64) (CTy.pair (CTy.int IntKind.i64) (CTy.int IntKind.i64))) x9), (.row false 2 (CTy.int IntKind.i64) x10)], [(.row false 2 (CTy.int IntKind.i64) (ko2 x3 x4 x5 x6 x7 x9 x10)), (.row false 2 (CTy.int IntKind.i64) (kqv x3 x4 x5 x6 x7)), (.row false 2 (CTy.int IntKind.i64) (kqy x3 x4 x5 x6 x7 x8 x10)), (.row false 172 (CTy.pair (CTy.int IntKind.i64) (CTy.pair (CTy.int IntKind.i64) (CTy.int IntKind.i64))) (kqs x3 x4 x5 x6 x9))], [(k90 x3 x4 x5 x6 x7 x8 x9 x10)]⟩
  | _, _ => none

def kmo : PF Tryz.prog := PF.ofG Tryz.prog [kcz, PF.lend kcz, PF.fz kcz, ke7, PF.lend ke7, PF.fz ke7, kuv, PF.lend kuv, PF.fz kuv, kuk, PF.lend kuk, PF.fz kuk] [] hmix 122 Tryz.f122 Tryz.func122 (fun c _ => LOk.nil c) kz7 (by
  intro vs es r h; unfold kz7 at h; split at h
  · cases h; kernel_rfl
  · cases h)

abbrev kad := Int × Int × Int × Int × List Int × List Int × List Int × List Int × List (Int × (Int × Int)) × List (Int × (ByteArray × Int)) × List (Int × Int)

def kob (y0 : Int) (y10 : List (Int × Int)) : Bool :=
  ltI y0 (↑(List.length y10) : Int)

def ksf (y0 : Int) (y4 : List Int) (y5 : List Int) (y6 : List Int) (y7 : List Int) (y8 : List (Int × (Int × Int))) (y9 : List (Int × (ByteArray × Int))) (y10 : List (Int × Int)) : Bool :=
  k90 y0 y9 y10 y5 y6 y7 y8 y4

def ks2 (y0 : Int) (y10 : List (Int × Int)) : Int :=
  koe y0 y10

def ksd (y0 : Int) (y4 : List Int) (y5 : List Int) (y6 : List Int) (y8 : List (Int × (Int × Int))) (y9 : List (Int × (ByteArray × Int))) (y10 : List (Int × Int)) : List Int :=
  ko2 y0 y9 y10 y5 y6 y8 y4

def ks6 (y0 : Int) (y5 : List Int) (y6 : List Int) (y9 : List (Int × (ByteArray × Int))) (y10 : List (Int × Int)) : List Int :=
  kqv y0 y9 y10 y5 y6

def ks1 (y0 : Int) (y4 : List Int) (y5 : List Int) (y6 : List Int) (y7 : List Int) (y9 : List (Int × (ByteArray × Int))) (y10 : List (Int × Int)) : List Int :=
  kqy y0 y9 y10 y5 y6 y7 y4

def kse (y0 : Int) (y5 : List Int) (y8 : List (Int × (Int × Int))) (y9 : List (Int × (ByteArray × Int))) (y10 : List (Int × Int)) : List (Int × (Int × Int)) :=
  kqs y0 y9 y10 y5 y8

def kyb : kad → List (Nat × SV)
  | (_, _, _, _, _, _, _, _, _, _, _) => [(4, (.one ⟨false, [(.ptr 0 0)]⟩)), (3, (.one ⟨false, [(.ptr 1 0)]⟩)), (2, (.one ⟨false, [(.ref 2)]⟩))]

def kyi : kad → List (Nat × Entry)
  | (y0, y1, y2, y3, y4, y5, y6, y7, y8, y9, y10) => [(0, (.box 77 [(.val (.int IntKind.i64 y0)), (.ref 3), (.ref 4), (.ref 5), (.ref 6)])), (1, (.box 34 [(.val (.int IntKind.i64 y1)), (.val (.int IntKind.i64 y2)), (.val (.int IntKind.i64 y3)), (.ref 7), (.ref 8)])), (2, (.row false 2 (CTy.int IntKind.i64) y4)), (7, (.row false 178 (CTy.pair (CTy.int IntKind.i64) (CTy.pair CTy.str (CTy.int IntKind.i64))) y9)), (8, (.row false 150 (CTy.pair (CTy.int IntKind.i64) (CTy.int IntKind.i64)) y10)), (3, (.row false 2 (CTy.int IntKind.i64) y5)), (4, (.row false 2 (CTy.int IntKind.i64) y6)), (5, (.row false 2 (CTy.int IntKind.i64) y7)), (6, (.row false 172 (CTy.pair (CTy.int IntKind.i64) (CTy.pair (CTy.int IntKind.i64) (CTy.int IntKind.i64))) y8))]

def kye : Nat → kad → List (Nat × SV)
  | _, (_, _, _, _, _, _, _, _, _, _, _) => []

def ky9 : Nat → kad → List (Nat × Entry)
  | _, (y0, y1, y2, y3, y4, y5, y6, y7, y8, y9, y10) => [(0, (.box 77 [(.val (.int IntKind.i64 y0)), (.ref 3), (.ref 4), (.ref 5), (.ref 6)])), (1, (.box 34 [(.val (.int IntKind.i64 y1)), (.val (.int IntKind.i64 y2)), (.val (.int IntKind.i64 y3)), (.ref 7), (.ref 8)])), (2, (.row false 2 (CTy.int IntKind.i64) y4)), (3, (.row false 2 (CTy.int IntKind.i64) y5)), (4, (.row false 2 (CTy.int IntKind.i64) y6)), (5, (.row false 2 (CTy.int IntKind.i64) y7)), (6, (.row false 172 (CTy.pair (CTy.int IntKind.i64) (CTy.pair (CTy.int IntKind.i64) (CTy.int IntKind.i64))) y8)), (7, (.row false 178 (CTy.pair (CTy.int IntKind.i64) (CTy.pair CTy.str (CTy.int IntKind.i64))) y9)), (8, (.row false 150 (CTy.pair (CTy.int IntKind.i64) (CTy.int IntKind.i64)) y10))]

def knr : kad → LT kad
  | (y0, y1, y2, y3, y4, y5, y6, y7, y8, y9, y10) => .ite (kob y0 y10) (.need [(ksf y0 y4 y5 y6 y7 y8 y9 y10)] (.nrm ((ks2 y0 y10), y1, y2, y3, y4, (ksd y0 y4 y5 y6 y8 y9 y10), (ks6 y0 y5 y6 y9 y10), (ks1 y0 y4 y5 y6 y7 y9 y10), (kse y0 y5 y8 y9 y10), y9, y10) [(0, 0), (1, 1), (2, 2), (3, 640), (4, 641), (5, 642), (6, 643), (7, 7), (8, 8)])) (.ext 0 [(0, 0), (1, 1), (2, 2), (3, 3), (4, 4), (5, 5), (6, 6), (7, 7), (8, 8)])

def knu (s : St) : Option kad :=
  (match s.look 4 with
  | some ⟨none, (.one ⟨false, [(.ptr 576 0)]⟩)⟩ =>
  (match s.look 3 with
  | some ⟨none, (.one ⟨false, [(.ptr 512 0)]⟩)⟩ =>
  (match s.look 2 with
  | some ⟨none, (.one ⟨false, [(.ref 6)]⟩)⟩ =>
  (match s.ent 576 with
  | some (.box 77 [(.val (.int IntKind.i64 y0)), (.ref 2368), (.ref 3008), (.ref 3648), (.ref 4288)]) =>
  (match s.ent 512 with
  | some (.box 34 [(.val (.int IntKind.i64 y1)), (.val (.int IntKind.i64 y2)), (.val (.int IntKind.i64 y3)), (.ref 0), (.ref 1)]) =>
  (match s.ent 6 with
  | some (.row false 2 (CTy.int IntKind.i64) y4) =>
  (match s.ent 0 with
  | some (.row false 178 (CTy.pair (CTy.int IntKind.i64) (CTy.pair CTy.str (CTy.int IntKind.i64))) y9) =>
  (match s.ent 1 with
  | some (.row false 150 (CTy.pair (CTy.int IntKind.i64) (CTy.int IntKind.i64)) y10) =>
  (match s.ent 2368 with
  | some (.row false 2 (CTy.int IntKind.i64) y5) =>
  (match s.ent 3008 with
  | some (.row false 2 (CTy.int IntKind.i64) y6) =>
  (match s.ent 3648 with
  | some (.row false 2 (CTy.int IntKind.i64) y7) =>
  (match s.ent 4288 with
  | some (.row false 172 (CTy.pair (CTy.int IntKind.i64) (CTy.pair (CTy.int IntKind.i64) (CTy.int IntKind.i64))) y8) =>
  some (y0, y1, y2, y3, y4, y5, y6, y7, y8, y9, y10)
  | _ => none)
  | _ => none)
  | _ => none)
  | _ => none)
  | _ => none)
  | _ => none)
  | _ => none)
  | _ => none)
  | _ => none)
  | _ => none)
  | _ => none)
  | _ => none)

def k68 : Lp kad where
  h := ⟨[23, 24, 25, 26, 27, 28, 29, 30, 31, 32], [0, 1, 2, 7, 8], [3, 4, 5, 6], []⟩
  JL := kyb
  JE := kyi
  XL := kye
  XE := ky9
  q := fun j => match j with | _ => .exit 0
  tags := [0]
  lt := knr
  fuel := fun (y0, y1, y2, y3, y4, y5, y6, y7, y8, y9, y10) => y0.natAbs + y1.natAbs + y2.natAbs + y3.natAbs + y4.length + y5.length + y6.length + y7.length + y8.length + y9.length + y10.length
  fix := fun (_, y1, y2, y3, y4, _, _, _, _, y9, y10) (y0, _, _, _, _, y5, y6, y7, y8, _, _) => (y0, y1, y2, y3, y4, y5, y6, y7, y8, y9, y10)
  σ := [(0, 576), (1, 512), (2, 6), (7, 0), (8, 1), (3, 2368), (4, 3008), (5, 3648), (6, 4288)]
  rd := knu
  fz := [0]

theorem kvz : LoopOk Tryz.prog (fun k => Nat.blt k Tryz.f127.ntmps) k68.F (loopAt Tryz.f127 0) := by
  refine Lp.ok (tbl := [kmo, PF.lend kmo, PF.fz kmo, kcz, PF.lend kcz, PF.fz kcz]) (lf := []) hmix k68 (by kernel_rfl) (LOk.nil _) (fun _ => rfl) (fun _ _ => rfl) ?_ ?_ ?_ ?_ (fun _ => rfl) ?_
  · intro x; obtain ⟨y0, y1, y2, y3, y4, y5, y6, y7, y8, y9, y10⟩ := x; kernel_rfl
  · intro x; obtain ⟨y0, y1, y2, y3, y4, y5, y6, y7, y8, y9, y10⟩ := x; kernel_rfl
  · intro s x h
    have h : knu s = some x := h
    unfold knu at h
    repeat' split at h
    all_goals cases h
    exact ⟨absS_cons (by assumption) rfl (absS_cons (by assumption) rfl (absS_cons (by assumption) rfl (rfl))), absE_cons rfl (by assumption) rfl (absE_cons rfl (by assumption) rfl (absE_cons rfl (by assumption) rfl (absE_cons rfl (by assumption) rfl (absE_cons rfl (by assumption) rfl (absE_cons rfl (by assumption) rfl (absE_cons rfl (by assumption) rfl (absE_cons rfl (by assumption) rfl (absE_cons rfl (by assumption) rfl (rfl)))))))))⟩
  · intro x; obtain ⟨y0, y1, y2, y3, y4, y5, y6, y7, y8, y9, y10⟩ := x; kernel_rfl
  · intro x z; obtain ⟨y0, y1, y2, y3, y4, y5, y6, y7, y8, y9, y10⟩ := x; exact (And.intro rfl trivial)

def knh (x0 : Int) (x1 : Int) (x2 : Int) (x3 : Int) (x4 : List (Int × ByteArray × Int)) (x5 : List (Int × Int)) (x6 : List Int) (x7 : List Int) (x8 : List Int) (x9 : List (Int × Int × Int)) (x10 : List Int) : Int × Int × Int × Int × List Int × List Int × List Int × List Int × List (Int × Int × Int) × List (Int × ByteArray × Int) × List (Int × Int) :=
  (x3, x0, x1, x2, x10, x6, x7, x8, x9, x4, x5)

def kq8 (x0 : Int) (x1 : Int) (x2 : Int) (x3 : Int) (x4 : List (Int × ByteArray × Int)) (x5 : List (Int × Int)) (x6 : List Int) (x7 : List Int) (x8 : List Int) (x9 : List (Int × Int × Int)) (x10 : List Int) : List Int × List Int × List Int × List (Int × Int × Int) × List (Int × ByteArray × Int) × List (Int × Int) :=
  Prod.snd (Prod.snd (Prod.snd (Prod.snd (Prod.snd (Prod.snd (Lp.res k68 (knh x0 x1 x2 x3 x4 x5 x6 x7 x8 x9 x10)))))))

def kqe (x0 : Int) (x1 : Int) (x2 : Int) (x3 : Int) (x4 : List (Int × ByteArray × Int)) (x5 : List (Int × Int)) (x6 : List Int) (x7 : List Int) (x8 : List Int) (x9 : List (Int × Int × Int)) (x10 : List Int) : List Int × List Int × List (Int × Int × Int) × List (Int × ByteArray × Int) × List (Int × Int) :=
  Prod.snd (kq8 x0 x1 x2 x3 x4 x5 x6 x7 x8 x9 x10)

def kqg (x0 : Int) (x1 : Int) (x2 : Int) (x3 : Int) (x4 : List (Int × ByteArray × Int)) (x5 : List (Int × Int)) (x6 : List Int) (x7 : List Int) (x8 : List Int) (x9 : List (Int × Int × Int)) (x10 : List Int) : List Int × List (Int × Int × Int) × List (Int × ByteArray × Int) × List (Int × Int) :=
  Prod.snd (kqe x0 x1 x2 x3 x4 x5 x6 x7 x8 x9 x10)

def krm (x0 : Int) (x1 : Int) (x2 : Int) (x3 : Int) (x4 : List (Int × ByteArray × Int)) (x5 : List (Int × Int)) (x6 : List Int) (x7 : List Int) (x8 : List Int) (x9 : List (Int × Int × Int)) (x10 : List Int) : Int :=
  Prod.fst (Prod.snd (Lp.res k68 (knh x0 x1 x2 x3 x4 x5 x6 x7 x8 x9 x10)))

def krp (x0 : Int) (x1 : Int) (x2 : Int) (x3 : Int) (x4 : List (Int × ByteArray × Int)) (x5 : List (Int × Int)) (x6 : List Int) (x7 : List Int) (x8 : List Int) (x9 : List (Int × Int × Int)) (x10 : List Int) : List Int :=
  Prod.fst (kq8 x0 x1 x2 x3 x4 x5 x6 x7 x8 x9 x10)

def koc (x0 : Int) (x1 : Int) (x2 : Int) (x3 : Int) (x4 : List (Int × ByteArray × Int)) (x5 : List (Int × Int)) (x6 : List Int) (x7 : List Int) (x8 : List Int) (x9 : List (Int × Int × Int)) (x10 : List Int) : List Int :=
  Prod.fst (kqe x0 x1 x2 x3 x4 x5 x6 x7 x8 x9 x10)

def kol (x0 : Int) (x1 : Int) (x2 : Int) (x3 : Int) (x4 : List (Int × ByteArray × Int)) (x5 : List (Int × Int)) (x6 : List Int) (x7 : List Int) (x8 : List Int) (x9 : List (Int × Int × Int)) (x10 : List Int) : List Int :=
  Prod.fst (kqg x0 x1 x2 x3 x4 x5 x6 x7 x8 x9 x10)

def ko0 (x0 : Int) (x1 : Int) (x2 : Int) (x3 : Int) (x4 : List (Int × ByteArray × Int)) (x5 : List (Int × Int)) (x6 : List Int) (x7 : List Int) (x8 : List Int) (x9 : List (Int × Int × Int)) (x10 : List Int) : List (Int × (Int × Int)) :=
  Prod.fst (Prod.snd (kqg x0 x1 x2 x3 x4 x5 x6 x7 x8 x9 x10))

def ko9 (x0 : Int) (x1 : Int) (x2 : Int) (x3 : Int) (x4 : List (Int × ByteArray × Int)) (x5 : List (Int × Int)) (x6 : List Int) (x7 : List Int) (x8 : List Int) (x9 : List (Int × Int × Int)) (x10 : List Int) : Bool :=
  allT
  [leN (List.length x6) (1048576 : Nat), leN (List.length x7) (1048576 : Nat), leN (List.length x8) (1048576 : Nat),
    leN ((0 : Nat) + List.length x9) (9223372036854775807 : Nat), leN (((0 : Nat) + List.length x9) * (24 : Nat)) (140737488355328 : Nat),
    Lp.fin k68 (knh x0 x1 x2 x3 x4 x5 x6 x7 x8 x9 x10)]

def kvx : List SV → List Entry → Option Out
  | [.one ⟨true, [.val (.int .i64 x0), .val (.int .i64 x1), .val (.int .i64 x2), .ref 0, .ref 1]⟩, .one ⟨true, [.val (.int .i64 x3), .ref 2, .ref 3, .ref 4, .ref 5]⟩, .one ⟨false, [.ref 6]⟩], [.row false 178 (.pair (.int .i64) (.pair (.str) (.int .i64))) x4, .row false 150 (.pair (.int .i64) (.int .i64)) x5, .row false 2 (.int .i64) x6, .row false 2 (.int .i64) x7, .row false 2 (.int .i64) x8, .row false 172 (.pair (.int .i64) (.pair (.int .i64) (.int .i64))) x9, .row false 2 (.int .i64) x10] => some ⟨(.one ⟨true, [(.val (.int IntKind.i64 (krm x0 x1 x2 x3 x4 x5 x6 x7 x8 x9 x10))), (.ref 7), (.ref 8), (.ref 9), (.ref 10)]⟩), [(.row false 178 (CTy.pair (CTy.int IntKind.i64) (CTy.pair CTy.str (CTy.int IntKind.i64))) x4), (.row false 150 (CTy.pair (CTy.int IntKind.i64) (CTy.int IntKind.i64)) x5), (.row false 2 (CTy.int IntKind.i64) x6), (.row false 2 (CTy.int IntKind.i64) x7), (.row false 2 (CTy.int IntKind.i64) x8), (.row false 172 (CTy.pair (CTy.int IntKind.i64) (CTy.pair (CTy.int IntKind.i64) (CTy.int IntKind.i64))) x9), (.row false 2 (CTy.int IntKind.i64) x10)], [(.row false 2 (CTy.int IntKind.i64) (krp x0 x1 x2 x3 x4 x5 x6 x7 x8 x9 x10)), (.row false 2 (CTy.int IntKind.i64) (koc x0 x1 x2 x3 x4 x5 x6 x7 x8 x9 x10)), (.row false 2 (CTy.int IntKind.i64) (kol x0 x1 x2 x3 x4 x5 x6 x7 x8 x9 x10)), (.row false 172 (CTy.pair (CTy.int IntKind.i64) (CTy.pair (CTy.int IntKind.i64) (CTy.int IntKind.i64))) (ko0 x0 x1 x2 x3 x4 x5 x6 x7 x8 x9 x10))], [(ko9 x0 x1 x2 x3 x4 x5 x6 x7 x8 x9 x10)]⟩
  | _, _ => none

def krh : PF Tryz.prog := PF.ofG Tryz.prog [kmo, PF.lend kmo, PF.fz kmo, kcz, PF.lend kcz, PF.fz kcz] [(fun s => k68.F (aliasS [(576, 1), (576, 2), (576, 3), (576, 4)] s))] hmix 127 Tryz.f127 Tryz.func127 (LOk.fnT (l := [loopAt Tryz.f127 0]) (by kernel_rfl) (.cons (kvz.alias [(576, 1), (576, 2), (576, 3), (576, 4)]) (.nil _))) kvx (by
  intro vs es r h; unfold kvx at h; split at h
  · cases h; kernel_rfl
  · cases h)

def klb  : List Int :=
  []

def kl5 (x2 : Int) : List Int :=
  List.replicate (Int.toNat x2) (0 : Int)

def ksm (x2 : Int) (x5 : List Int) (x6 : List (Int × Int × Int)) : Bool :=
  allT
  [leN (List.length x5) (1048576 : Nat), leI (0 : Int) x2, leI x2 x2, leI ((↑(8 : Nat) : Int) * x2) (281474976710656 : Int),
    leI x2 (9223372036854775807 : Int), leN ((0 : Nat) + List.length x6) (9223372036854775807 : Nat),
    leN (((0 : Nat) + List.length x6) * (24 : Nat)) (140737488355328 : Nat)]

def kxg : List SV → List Entry → Option Out
  | [.one ⟨true, [.val (.int .i64 _x0), .val (.int .i64 _x1), .val (.int .i64 x2), .ref 0, .ref 1]⟩, .one ⟨true, [.ref 2, .ref 3]⟩], [.row false 178 (.pair (.int .i64) (.pair (.str) (.int .i64))) x3, .row false 150 (.pair (.int .i64) (.int .i64)) x4, .row false 2 (.int .i64) x5, .row false 172 (.pair (.int .i64) (.pair (.int .i64) (.int .i64))) x6] => some ⟨(.one ⟨true, [(.val (.int IntKind.i64 (0 : Int))), (.ref 4), (.ref 5), (.ref 6), (.ref 7)]⟩), [(.row false 178 (CTy.pair (CTy.int IntKind.i64) (CTy.pair CTy.str (CTy.int IntKind.i64))) x3), (.row false 150 (CTy.pair (CTy.int IntKind.i64) (CTy.int IntKind.i64)) x4), (.row false 2 (CTy.int IntKind.i64) x5), (.row false 172 (CTy.pair (CTy.int IntKind.i64) (CTy.pair (CTy.int IntKind.i64) (CTy.int IntKind.i64))) x6)], [(.row true 2 (CTy.int IntKind.i64) (klb)), (.row true 2 (CTy.int IntKind.i64) x5), (.row true 2 (CTy.int IntKind.i64) (kl5 x2)), (.row true 172 (CTy.pair (CTy.int IntKind.i64) (CTy.pair (CTy.int IntKind.i64) (CTy.int IntKind.i64))) x6)], [(ksm x2 x5 x6)]⟩
  | _, _ => none

def kso : PF Tryz.prog := PF.ofG Tryz.prog [kcz, PF.lend kcz, PF.fz kcz] [] hmix 147 Tryz.f147 Tryz.func147 (fun c _ => LOk.nil c) kxg (by
  intro vs es r h; unfold kxg at h; split at h
  · cases h; kernel_rfl
  · cases h)

def kvq (x0 : Int) (x1 : Int) (x2 : Int) (x3 : List (Int × ByteArray × Int)) (x4 : List (Int × Int)) (x5 : List Int) (x6 : List (Int × Int × Int)) (x7 : List Int) : List Int :=
  kol x0 x1 x2 (0 : Int) x3 x4 klb x5 (kl5 x2) x6 x7

def kvm (x0 : Int) (x1 : Int) (x2 : Int) (x3 : List (Int × ByteArray × Int)) (x4 : List (Int × Int)) (x5 : List Int) (x6 : List (Int × Int × Int)) (x7 : List Int) : List Int :=
  koc x0 x1 x2 (0 : Int) x3 x4 klb x5 (kl5 x2) x6 x7

def kwe (x0 : Int) (x1 : Int) (x2 : Int) (x3 : List (Int × ByteArray × Int)) (x4 : List (Int × Int)) (x5 : List Int) (x6 : List (Int × Int × Int)) (x7 : List Int) : List (Int × (Int × Int)) :=
  ko0 x0 x1 x2 (0 : Int) x3 x4 klb x5 (kl5 x2) x6 x7

def kvp (x0 : Int) (x1 : Int) (x2 : Int) (x3 : List (Int × ByteArray × Int)) (x4 : List (Int × Int)) (x5 : List Int) (x6 : List (Int × Int × Int)) (x7 : List Int) : Bool :=
  allT [ksm x2 x5 x6, ko9 x0 x1 x2 (0 : Int) x3 x4 klb x5 (kl5 x2) x6 x7]

def k10v : List SV → List Entry → Option Out
  | [.one ⟨true, [.val (.int .i64 x0), .val (.int .i64 x1), .val (.int .i64 x2), .ref 0, .ref 1]⟩, .one ⟨true, [.ref 2, .ref 3]⟩, .one ⟨false, [.ref 4]⟩], [.row false 178 (.pair (.int .i64) (.pair (.str) (.int .i64))) x3, .row false 150 (.pair (.int .i64) (.int .i64)) x4, .row false 2 (.int .i64) x5, .row false 172 (.pair (.int .i64) (.pair (.int .i64) (.int .i64))) x6, .row false 2 (.int .i64) x7] => some ⟨(.tup [⟨false, [(.ref 5)]⟩, ⟨true, [(.ref 6), (.ref 7)]⟩]), [(.row false 178 (CTy.pair (CTy.int IntKind.i64) (CTy.pair CTy.str (CTy.int IntKind.i64))) x3), (.row false 150 (CTy.pair (CTy.int IntKind.i64) (CTy.int IntKind.i64)) x4), (.row false 2 (CTy.int IntKind.i64) x5), (.row false 172 (CTy.pair (CTy.int IntKind.i64) (CTy.pair (CTy.int IntKind.i64) (CTy.int IntKind.i64))) x6), (.row false 2 (CTy.int IntKind.i64) x7)], [(.row false 2 (CTy.int IntKind.i64) (kvq x0 x1 x2 x3 x4 x5 x6 x7)), (.row false 2 (CTy.int IntKind.i64) (kvm x0 x1 x2 x3 x4 x5 x6 x7)), (.row false 172 (CTy.pair (CTy.int IntKind.i64) (CTy.pair (CTy.int IntKind.i64) (CTy.int IntKind.i64))) (kwe x0 x1 x2 x3 x4 x5 x6 x7))], [(kvp x0 x1 x2 x3 x4 x5 x6 x7)]⟩
  | _, _ => none

def k13u : PF Tryz.prog := PF.ofG Tryz.prog [krh, PF.lend krh, PF.fz krh, kso, PF.lend kso, PF.fz kso] [] hmix 89 Tryz.f89 Tryz.func89 (fun c _ => LOk.nil c) k10v (by
  intro vs es r h; unfold k10v at h; split at h
  · cases h; kernel_rfl
  · cases h)

end Go.SX

namespace Go.SX
open Go.Proofs
set_option maxRecDepth 100000

def k4r (x8 : List Int) : Int :=
  Option.getD x8[Int.toNat (0 : Int)]? (0 : Int)

def k1p (x4 : Int) (x6 : List (Int × ByteArray × Int)) : Int × ByteArray × Int :=
  Option.getD x6[Int.toNat x4]? ((0 : Int), ByteArray.empty, (0 : Int))

def k14 (x4 : Int) (x13 : List (Int × Int × Int)) : Int × Int × Int :=
  Option.getD x13[Int.toNat x4]? ((0 : Int), (0 : Int), (0 : Int))

def k1b (x3 : Int) (x4 : Int) : Bool :=
  x3 == (1 : Int) || (x3 == (2 : Int) || (x3 == (3 : Int) || (x3 == (4 : Int) || (x3 == (5 : Int) || (x3 == (6 : Int) || leI (0 : Int) x4)))))

def k1h (x3 : Int) (x4 : Int) (x13 : List (Int × Int × Int)) : Bool :=
  x3 == (1 : Int) ||
  (x3 == (2 : Int) || (x3 == (3 : Int) || (x3 == (4 : Int) || (x3 == (5 : Int) || (x3 == (6 : Int) || ltI x4 (↑(List.length x13) : Int))))))

def k1i (x3 : Int) (x4 : Int) (x13 : List (Int × Int × Int)) : Bool :=
  x3 == (1 : Int) ||
  (x3 == (2 : Int) || (x3 == (3 : Int) || (x3 == (4 : Int) || (x3 == (5 : Int) || (x3 == (6 : Int) || ltN (Int.toNat x4) (List.length x13))))))

def k1e (x3 : Int) (x4 : Int) (x6 : List (Int × ByteArray × Int)) (x8 : List Int) (x9 : List Int) (x11 : List Int) (x13 : List (Int × Int × Int)) : Int :=
  bif x3 == (1 : Int) then x4
  else
  bif x3 == (2 : Int) then Option.getD x9[Int.toNat x4]? (0 : Int)
  else
    bif x3 == (3 : Int) then Option.getD x11[Int.toNat x4]? (0 : Int)
    else
      bif x3 == (4 : Int) then IntKind.wrap IntKind.i64 ((1 : Int) - k4r x8)
      else
        bif x3 == (5 : Int) then
          IntKind.wrap IntKind.i64
            (↑(BitVec.toNat
                  (BitVec.ofInt (IntKind.bits IntKind.i64) (k4r x8) &&&
                    BitVec.ofInt (IntKind.bits IntKind.i64) (Option.getD x8[Int.toNat (1 : Int)]? (0 : Int)))) :
              Int)
        else
          bif x3 == (6 : Int) then
            IntKind.wrap IntKind.i64
              (↑(BitVec.toNat
                    (BitVec.ofInt (IntKind.bits IntKind.i64) (k4r x8) |||
                      BitVec.ofInt (IntKind.bits IntKind.i64) (Option.getD x8[Int.toNat (1 : Int)]? (0 : Int)))) :
                Int)
          else
            kmn (Prod.fst (k1p x4 x6))
              (Prod.snd (Prod.snd (k1p x4 x6)))
              (Prod.fst (k14 x4 x13))
              (Prod.fst (Prod.snd (k14 x4 x13)))
              (Prod.snd (Prod.snd (k14 x4 x13))) x8

def k83 (x3 : Int) (x5 : Int) : Int :=
  bif x3 == (1 : Int) then x5
  else
  bif x3 == (2 : Int) then x5
  else bif x3 == (3 : Int) then x5 else bif x3 == (4 : Int) then x5 else bif x3 == (5 : Int) then x5 else bif x3 == (6 : Int) then x5 else x5

def k88 (x3 : Int) (x8 : List Int) : List Int :=
  bif x3 == (1 : Int) then x8
  else
  bif x3 == (2 : Int) then x8
  else bif x3 == (3 : Int) then x8 else bif x3 == (4 : Int) then x8 else bif x3 == (5 : Int) then x8 else bif x3 == (6 : Int) then x8 else x8

def k8a (x3 : Int) (x10 : List Int) : List Int :=
  bif x3 == (1 : Int) then x10
  else
  bif x3 == (2 : Int) then x10
  else bif x3 == (3 : Int) then x10 else bif x3 == (4 : Int) then x10 else bif x3 == (5 : Int) then x10 else bif x3 == (6 : Int) then x10 else x10

def k81 (x3 : Int) (x11 : List Int) : List Int :=
  bif x3 == (1 : Int) then x11
  else
  bif x3 == (2 : Int) then x11
  else bif x3 == (3 : Int) then x11 else bif x3 == (4 : Int) then x11 else bif x3 == (5 : Int) then x11 else bif x3 == (6 : Int) then x11 else x11

def k8c (x3 : Int) (x12 : List Int) : List Int :=
  bif x3 == (1 : Int) then x12
  else
  bif x3 == (2 : Int) then x12
  else bif x3 == (3 : Int) then x12 else bif x3 == (4 : Int) then x12 else bif x3 == (5 : Int) then x12 else bif x3 == (6 : Int) then x12 else x12

def k2v (x3 : Int) (x4 : Int) (x6 : List (Int × ByteArray × Int)) (x8 : List Int) (x13 : List (Int × Int × Int)) : List (Int × (Int × Int)) :=
  bif x3 == (1 : Int) then x13
  else
  bif x3 == (2 : Int) then x13
  else
    bif x3 == (3 : Int) then x13
    else
      bif x3 == (4 : Int) then x13
      else
        bif x3 == (5 : Int) then x13
        else
          bif x3 == (6 : Int) then x13
          else
            List.set x13 (Int.toNat x4)
              (klc (Prod.fst (k1p x4 x6))
                  (Prod.snd (Prod.snd (k1p x4 x6)))
                  (Prod.fst (k14 x4 x13))
                  (Prod.fst (Prod.snd (k14 x4 x13)))
                  (Prod.snd (Prod.snd (k14 x4 x13))) x8,
                kl8 (Prod.fst (k1p x4 x6))
                  (Prod.fst (Prod.snd (k14 x4 x13)))
                  (Prod.snd (Prod.snd (k14 x4 x13))) x8,
                kl7 (Prod.fst (k1p x4 x6))
                  (Prod.snd (Prod.snd (k1p x4 x6)))
                  (Prod.fst (k14 x4 x13))
                  (Prod.fst (Prod.snd (k14 x4 x13)))
                  (Prod.snd (Prod.snd (k14 x4 x13))) x8)

def kg (x3 : Int) (x4 : Int) (x6 : List (Int × ByteArray × Int)) (x8 : List Int) (x9 : List Int) (x11 : List Int) (x13 : List (Int × Int × Int)) : Bool :=
  allT
  [x3 == (1 : Int) || (!x3 == (2 : Int) || leI (0 : Int) x4), x3 == (1 : Int) || (!x3 == (2 : Int) || ltI x4 (↑(List.length x9) : Int)),
    x3 == (1 : Int) || (!x3 == (2 : Int) || ltN (Int.toNat x4) (List.length x9)),
    x3 == (1 : Int) || (x3 == (2 : Int) || (!x3 == (3 : Int) || leI (0 : Int) x4)),
    x3 == (1 : Int) || (x3 == (2 : Int) || (!x3 == (3 : Int) || ltI x4 (↑(List.length x11) : Int))),
    x3 == (1 : Int) || (x3 == (2 : Int) || (!x3 == (3 : Int) || ltN (Int.toNat x4) (List.length x11))),
    x3 == (1 : Int) || (x3 == (2 : Int) || (x3 == (3 : Int) || (!x3 == (4 : Int) || leI (0 : Int) (0 : Int)))),
    x3 == (1 : Int) || (x3 == (2 : Int) || (x3 == (3 : Int) || (!x3 == (4 : Int) || ltI (0 : Int) (↑(List.length x8) : Int)))),
    x3 == (1 : Int) || (x3 == (2 : Int) || (x3 == (3 : Int) || (!x3 == (4 : Int) || ltN (Int.toNat (0 : Int)) (List.length x8)))),
    x3 == (1 : Int) || (x3 == (2 : Int) || (x3 == (3 : Int) || (x3 == (4 : Int) || (!x3 == (5 : Int) || leI (0 : Int) (0 : Int))))),
    x3 == (1 : Int) || (x3 == (2 : Int) || (x3 == (3 : Int) || (x3 == (4 : Int) || (!x3 == (5 : Int) || ltI (0 : Int) (↑(List.length x8) : Int))))),
    x3 == (1 : Int) ||
      (x3 == (2 : Int) || (x3 == (3 : Int) || (x3 == (4 : Int) || (!x3 == (5 : Int) || ltN (Int.toNat (0 : Int)) (List.length x8))))),
    x3 == (1 : Int) || (x3 == (2 : Int) || (x3 == (3 : Int) || (x3 == (4 : Int) || (!x3 == (5 : Int) || leI (0 : Int) (1 : Int))))),
    x3 == (1 : Int) || (x3 == (2 : Int) || (x3 == (3 : Int) || (x3 == (4 : Int) || (!x3 == (5 : Int) || ltI (1 : Int) (↑(List.length x8) : Int))))),
    x3 == (1 : Int) ||
      (x3 == (2 : Int) || (x3 == (3 : Int) || (x3 == (4 : Int) || (!x3 == (5 : Int) || ltN (Int.toNat (1 : Int)) (List.length x8))))),
    x3 == (1 : Int) ||
      (x3 == (2 : Int) || (x3 == (3 : Int) || (x3 == (4 : Int) || (x3 == (5 : Int) || (!x3 == (6 : Int) || leI (0 : Int) (0 : Int)))))),
    x3 == (1 : Int) ||
      (x3 == (2 : Int) ||
        (x3 == (3 : Int) || (x3 == (4 : Int) || (x3 == (5 : Int) || (!x3 == (6 : Int) || ltI (0 : Int) (↑(List.length x8) : Int)))))),
    x3 == (1 : Int) ||
      (x3 == (2 : Int) ||
        (x3 == (3 : Int) || (x3 == (4 : Int) || (x3 == (5 : Int) || (!x3 == (6 : Int) || ltN (Int.toNat (0 : Int)) (List.length x8)))))),
    x3 == (1 : Int) ||
      (x3 == (2 : Int) || (x3 == (3 : Int) || (x3 == (4 : Int) || (x3 == (5 : Int) || (!x3 == (6 : Int) || leI (0 : Int) (1 : Int)))))),
    x3 == (1 : Int) ||
      (x3 == (2 : Int) ||
        (x3 == (3 : Int) || (x3 == (4 : Int) || (x3 == (5 : Int) || (!x3 == (6 : Int) || ltI (1 : Int) (↑(List.length x8) : Int)))))),
    x3 == (1 : Int) ||
      (x3 == (2 : Int) ||
        (x3 == (3 : Int) || (x3 == (4 : Int) || (x3 == (5 : Int) || (!x3 == (6 : Int) || ltN (Int.toNat (1 : Int)) (List.length x8)))))),
    k1b x3 x4,
    x3 == (1 : Int) ||
      (x3 == (2 : Int) || (x3 == (3 : Int) || (x3 == (4 : Int) || (x3 == (5 : Int) || (x3 == (6 : Int) || ltI x4 (↑(List.length x6) : Int)))))),
    x3 == (1 : Int) ||
      (x3 == (2 : Int) || (x3 == (3 : Int) || (x3 == (4 : Int) || (x3 == (5 : Int) || (x3 == (6 : Int) || ltN (Int.toNat x4) (List.length x6)))))),
    k1b x3 x4, k1h x3 x4 x13,
    k1i x3 x4 x13,
    x3 == (1 : Int) || (x3 == (2 : Int) || (x3 == (3 : Int) || (x3 == (4 : Int) || (x3 == (5 : Int) || (x3 == (6 : Int) || kml x8))))),
    k1b x3 x4, k1h x3 x4 x13,
    k1i x3 x4 x13]

def kd4 : List SV → List Entry → Option Out
  | [.one ⟨false, [.ptr 0 0]⟩, .one ⟨true, [.val (.int .i64 _x0), .val (.int .i64 _x1), .val (.int .i64 _x2), .ref 1, .ref 2]⟩, .one ⟨true, [.val (.int .i64 x3), .val (.int .i64 x4)]⟩, .one ⟨false, [.ref 3]⟩, .one ⟨false, [.ref 4]⟩], [.box 77 [.val (.int .i64 x5), .ref 5, .ref 6, .ref 7, .ref 8], .row false 178 (.pair (.int .i64) (.pair .str (.int .i64))) x6, .row false 150 (.pair (.int .i64) (.int .i64)) x7, .row true 2 (.int .i64) x8, .row false 2 (.int .i64) x9, .row true 2 (.int .i64) x10, .row true 2 (.int .i64) x11, .row true 2 (.int .i64) x12, .row true 172 (.pair (.int .i64) (.pair (.int .i64) (.int .i64))) x13] => some ⟨(.one ⟨false, [(.val (.int IntKind.i64 (k1e x3 x4 x6 x8 x9 x11 x13)))]⟩), [(.box 77 [(.val (.int IntKind.i64 (k83 x3 x5))), (.ref 5), (.ref 6), (.ref 7), (.ref 8)]), (.row false 178 (CTy.pair (CTy.int IntKind.i64) (CTy.pair CTy.str (CTy.int IntKind.i64))) x6), (.row false 150 (CTy.pair (CTy.int IntKind.i64) (CTy.int IntKind.i64)) x7), (.row true 2 (CTy.int IntKind.i64) (k88 x3 x8)), (.row false 2 (CTy.int IntKind.i64) x9), (.row true 2 (CTy.int IntKind.i64) (k8a x3 x10)), (.row true 2 (CTy.int IntKind.i64) (k81 x3 x11)), (.row true 2 (CTy.int IntKind.i64) (k8c x3 x12)), (.row true 172 (CTy.pair (CTy.int IntKind.i64) (CTy.pair (CTy.int IntKind.i64) (CTy.int IntKind.i64))) (k2v x3 x4 x6 x8 x13))], [], [(kg x3 x4 x6 x8 x9 x11 x13)]⟩
  | _, _ => none

def kku : PF Tryz.prog := PF.ofG Tryz.prog [k107, PF.lend k107, PF.fz k107] [] hmix 198 Tryz.f198 Tryz.func198 (fun c _ => LOk.nil c) kd4 (by
  intro vs es r h; unfold kd4 at h; split at h
  · cases h; kernel_rfl
  · cases h)

def k7i (x3 : List Int) : Int :=
  Option.getD x3[Int.toNat (0 : Int)]? (0 : Int)

def k7w (x0 : Int) (x1 : Int) (x3 : List Int) (x6 : List Int) : List Int :=
  bif x0 == (8 : Int) then List.set x6 (Int.toNat x1) (k7i x3) else x6

def k4q (x0 : Int) (x1 : Int) (x3 : List Int) (x4 : List Int) (x6 : List Int) (x7 : List Int) : List Int :=
  bif x0 == (8 : Int) then x7
  else
  bif x0 == (9 : Int) then List.set x7 (Int.toNat x1) (k7i x3)
  else
    bif x0 == (10 : Int) then bif Option.getD x4[Int.toNat x1]? (0 : Int) == (0 : Int) then zeros (List.length x7) else x7
    else bif x0 == (11 : Int) then bif Option.getD x6[Int.toNat x1]? (0 : Int) == (0 : Int) then zeros (List.length x7) else x7 else x7

def k1c (x0 : Int) (x1 : Int) (x3 : List Int) (x4 : List Int) (x6 : List Int) (x7 : List Int) : Bool :=
  allT
  [!x0 == (8 : Int) || leI (0 : Int) (0 : Int), !x0 == (8 : Int) || ltI (0 : Int) (↑(List.length x3) : Int),
    !x0 == (8 : Int) || ltN (Int.toNat (0 : Int)) (List.length x3), !x0 == (8 : Int) || leI (0 : Int) x1,
    !x0 == (8 : Int) || ltI x1 (↑(List.length x6) : Int), !x0 == (8 : Int) || ltN (Int.toNat x1) (List.length x6),
    x0 == (8 : Int) || (!x0 == (9 : Int) || leI (0 : Int) (0 : Int)),
    x0 == (8 : Int) || (!x0 == (9 : Int) || ltI (0 : Int) (↑(List.length x3) : Int)),
    x0 == (8 : Int) || (!x0 == (9 : Int) || ltN (Int.toNat (0 : Int)) (List.length x3)), x0 == (8 : Int) || (!x0 == (9 : Int) || leI (0 : Int) x1),
    x0 == (8 : Int) || (!x0 == (9 : Int) || ltI x1 (↑(List.length x7) : Int)),
    x0 == (8 : Int) || (!x0 == (9 : Int) || ltN (Int.toNat x1) (List.length x7)),
    x0 == (8 : Int) || (x0 == (9 : Int) || (!x0 == (10 : Int) || leI (0 : Int) x1)),
    x0 == (8 : Int) || (x0 == (9 : Int) || (!x0 == (10 : Int) || ltI x1 (↑(List.length x4) : Int))),
    x0 == (8 : Int) || (x0 == (9 : Int) || (!x0 == (10 : Int) || ltN (Int.toNat x1) (List.length x4))),
    x0 == (8 : Int) || (x0 == (9 : Int) || (x0 == (10 : Int) || (!x0 == (11 : Int) || leI (0 : Int) x1))),
    x0 == (8 : Int) || (x0 == (9 : Int) || (x0 == (10 : Int) || (!x0 == (11 : Int) || ltI x1 (↑(List.length x6) : Int)))),
    x0 == (8 : Int) || (x0 == (9 : Int) || (x0 == (10 : Int) || (!x0 == (11 : Int) || ltN (Int.toNat x1) (List.length x6))))]

def kca : List SV → List Entry → Option Out
  | [.one ⟨false, [.ptr 0 0]⟩, .one ⟨true, [.val (.int .i64 x0), .val (.int .i64 x1)]⟩, .one ⟨false, [.ref 1]⟩, .one ⟨false, [.ref 2]⟩], [.box 77 [.val (.int .i64 x2), .ref 3, .ref 4, .ref 5, .ref 6], .row true 2 (.int .i64) x3, .row false 2 (.int .i64) x4, .row true 2 (.int .i64) x5, .row true 2 (.int .i64) x6, .row true 2 (.int .i64) x7, .row true 172 (.pair (.int .i64) (.pair (.int .i64) (.int .i64))) x8] => some ⟨(.tup []), [(.box 77 [(.val (.int IntKind.i64 x2)), (.ref 3), (.ref 4), (.ref 5), (.ref 6)]), (.row true 2 (CTy.int IntKind.i64) x3), (.row false 2 (CTy.int IntKind.i64) x4), (.row true 2 (CTy.int IntKind.i64) x5), (.row true 2 (CTy.int IntKind.i64) (k7w x0 x1 x3 x6)), (.row true 2 (CTy.int IntKind.i64) (k4q x0 x1 x3 x4 x6 x7)), (.row true 172 (CTy.pair (CTy.int IntKind.i64) (CTy.pair (CTy.int IntKind.i64) (CTy.int IntKind.i64))) x8)], [], [(k1c x0 x1 x3 x4 x6 x7)]⟩
  | _, _ => none

def kji : PF Tryz.prog := PF.ofG Tryz.prog [] [] hmix 199 Tryz.f199 Tryz.func199 (fun c _ => LOk.nil c) kca (by
  intro vs es r h; unfold kca at h; split at h
  · cases h; kernel_rfl
  · cases h)

def kbe (x0 : List (Int × Int)) : Int :=
  (↑(List.length x0) : Int)

def kko : List SV → List Entry → Option Out
  | [.one ⟨false, [.ref 0]⟩], [.row false 150 (.pair (.int .i64) (.int .i64)) x0] => some ⟨(.one ⟨false, [(.val (.int IntKind.i64 (kbe x0)))]⟩), [(.row false 150 (CTy.pair (CTy.int IntKind.i64) (CTy.int IntKind.i64)) x0)], [], []⟩
  | _, _ => none

def kbf : PF Tryz.prog := PF.ofG Tryz.prog [] [] hmix 124 Tryz.f124 Tryz.func124 (fun c _ => LOk.nil c) kko (by
  intro vs es r h; unfold kko at h; split at h
  · cases h; kernel_rfl
  · cases h)

def koo (x0 : List Int) : Int :=
  (↑(List.length x0) : Int)

def ksk : List SV → List Entry → Option Out
  | [.one ⟨false, [.ref 0]⟩], [.row false 2 (.int .i64) x0] => some ⟨(.one ⟨false, [(.val (.int IntKind.i64 (koo x0)))]⟩), [(.row false 2 (CTy.int IntKind.i64) x0)], [], []⟩
  | _, _ => none

def ksh : PF Tryz.prog := PF.ofG Tryz.prog [] [] hmix 197 Tryz.f197 Tryz.func197 (fun c _ => LOk.nil c) ksk (by
  intro vs es r h; unfold ksk at h; split at h
  · cases h; kernel_rfl
  · cases h)

end Go.SX

namespace Go.SX
open Go.Proofs
set_option maxRecDepth 100000

def atZ (l : List Int) (k : Int) : Int := Option.getD l[Int.toNat k]? (0 : Int)
def andI (a b : Int) : Int := bif a == 1 then b else 0
def orI (a b : Int) : Int := bif a == 1 then 1 else b
def argI (bs : List TM) (x : IN) (stk : List Int) : List Int := stk.drop (stk.length - (tkI bs x).toNat)
def rstI (bs : List TM) (x : IN) (stk : List Int) : List Int := stk.take (stk.length - (tkI bs x).toNat)
def valM (bs : List TM) (inp : List Int) (x : IN) (xs : List Int) (ss : List BS3) (ar : List Int) : Int :=
  bif x.1 == 1 then x.2 else bif x.1 == 2 then atZ inp x.2 else bif x.1 == 3 then atZ xs x.2 else bif x.1 == 4 then 1 - atZ ar 0
  else bif x.1 == 5 then andI (atZ ar 0) (atZ ar 1) else bif x.1 == 6 then orI (atZ ar 0) (atZ ar 1)
  else bif x.1 == 7 then valB (termAt bs x.2.toNat).1 (termAt bs x.2.toNat).2.2 ar (stAt ss x.2.toNat) else 0
def mskM (os : List Int) (z : Int) : List Int := bif z == 0 then List.replicate os.length 0 else os
def stkM (bs : List TM) (inp : List Int) (x : IN) (stk xs : List Int) (ss : List BS3) : List Int := bif gvI x == 1 then rstI bs x stk ++ [valM bs inp x xs ss (argI bs x stk)] else rstI bs x stk
def vlsM (bs : List TM) (x : IN) (stk xs : List Int) : List Int := bif x.1 == 8 then xs.set x.2.toNat (atZ (argI bs x stk) 0) else xs
def outM (bs : List TM) (inp : List Int) (x : IN) (stk xs os : List Int) : List Int := bif x.1 == 9 then os.set x.2.toNat (atZ (argI bs x stk) 0) else bif x.1 == 10 then mskM os (atZ inp x.2) else bif x.1 == 11 then mskM os (atZ xs x.2) else os
def blkM (bs : List TM) (x : IN) (stk : List Int) (ss : List BS3) : List BS3 := bif x.1 == 7 then ss.set x.2.toNat (nextB (termAt bs x.2.toNat).1 (termAt bs x.2.toNat).2.2 (argI bs x stk) (stAt ss x.2.toNat)) else ss

theorem k11t {i v o : Int} {bs : List TM} {x : IN} (hi : 0 ≤ i ∧ i ≤ 20) (hv : 0 ≤ v ∧ v ≤ 20) (ho : 0 ≤ o ∧ o ≤ 20) (hl : bs.length ≤ 2000) (h : fitI i v o bs x = true) :
    (x.1 = 1 ∧ (x.2 = 0 ∨ x.2 = 1)) ∨ (x.1 = 2 ∧ 0 ≤ x.2 ∧ x.2 < i) ∨ (x.1 = 3 ∧ 0 ≤ x.2 ∧ x.2 < v) ∨ x.1 = 4 ∨ x.1 = 5 ∨ x.1 = 6 ∨ (x.1 = 7 ∧ 0 ≤ x.2 ∧ x.2 < bs.length) ∨
    (x.1 = 8 ∧ 0 ≤ x.2 ∧ x.2 < v) ∨ (x.1 = 9 ∧ 0 ≤ x.2 ∧ x.2 < o) ∨ (x.1 = 10 ∧ 0 ≤ x.2 ∧ x.2 < i) ∨ (x.1 = 11 ∧ 0 ≤ x.2 ∧ x.2 < v) := by
  have w1 : IntKind.i64.wrap (i - 1) = i - 1 := wrap_i64 (by omega) (by omega)
  have w2 : IntKind.i64.wrap (v - 1) = v - 1 := wrap_i64 (by omega) (by omega)
  have w3 : IntKind.i64.wrap (o - 1) = o - 1 := wrap_i64 (by omega) (by omega)
  have w4 : IntKind.i64.wrap ((bs.length : Int) - 1) = bs.length - 1 := wrap_i64 (by omega) (by omega)
  simp only [fitI, kf9, k1r, w1, w2, w3, w4] at h
  by_cases h1 : x.1 = 1
  · simp [h1, Bool.cond_eq_ite] at h; omega
  by_cases h2 : x.1 = 2
  · simp [h2, Bool.cond_eq_ite] at h; omega
  by_cases h3 : x.1 = 3
  · simp [h3, Bool.cond_eq_ite] at h; omega
  by_cases h4 : x.1 = 4
  · omega
  by_cases h5 : x.1 = 5
  · omega
  by_cases h6 : x.1 = 6
  · omega
  by_cases h7 : x.1 = 7
  · simp [h7, Bool.cond_eq_ite] at h; omega
  by_cases h8 : x.1 = 8
  · simp [h8, Bool.cond_eq_ite] at h; omega
  by_cases h9 : x.1 = 9
  · simp [h9, Bool.cond_eq_ite] at h; omega
  by_cases h10 : x.1 = 10
  · simp [h10, Bool.cond_eq_ite] at h; omega
  by_cases h11 : x.1 = 11
  · simp [h11, Bool.cond_eq_ite] at h; omega
  simp [h1, h2, h3, h4, h5, h6, h7, h8, h9, h10, h11] at h

theorem kzv {i v o : Int} {bs : List TM} : ∀ (l1 l2 : List IN) (n : Int) (acc : List Int), hgt i v o bs (l1 ++ l2) n acc = match hgt i v o bs l1 n acc with | some (m, a) => hgt i v o bs l2 m a | none => none
  | [], l2, n, acc => rfl
  | x :: r, l2, n, acc => by
    simp only [List.cons_append, hgt]
    cases (fitI i v o bs x && (leI (tkI bs x) n && leI (n - tkI bs x + gvI x) 40)) with
    | false => rfl
    | true => simp only [cond_true]; exact kzv r l2 _ _

/-- The instruction at a place fits its height. -/
theorem hgt_at {i v o : Int} {bs : List TM} {st : List IN} (hok : hgtOk i v o bs st = true) {k : Nat} (hk : k < st.length) {n : Int} {L : List Int} (h : hgt i v o bs (st.take k) 0 [] = some (n, L)) :
    fitI i v o bs st[k] = true ∧ tkI bs st[k] ≤ n ∧ n - tkI bs st[k] + gvI st[k] ≤ 40 ∧ hgt i v o bs (st.take (k + 1)) 0 [] = some (n - tkI bs st[k] + gvI st[k], L ++ [n - tkI bs st[k] + gvI st[k]]) := by
  have hs : st = st.take k ++ st[k] :: st.drop (k + 1) := by rw [List.getElem_cons_drop, List.take_append_drop]
  have h1 := kzv (i := i) (v := v) (o := o) (bs := bs) (st.take k) (st[k] :: st.drop (k + 1)) 0 []
  rw [← hs, h] at h1
  simp only [hgt] at h1
  cases hc : (fitI i v o bs st[k] && (leI (tkI bs st[k]) n && leI (n - tkI bs st[k] + gvI st[k]) 40)) with
  | false =>
    rw [hc] at h1
    simp only [hgtOk, h1, cond_false] at hok
    cases hok
  | true =>
    have h2 := kzv (i := i) (v := v) (o := o) (bs := bs) (st.take k) [st[k]] 0 []
    rw [h] at h2
    simp only [hgt, hc, cond_true] at h2
    simp only [Bool.and_eq_true, leI_iff] at hc
    refine ⟨hc.1, hc.2.1, hc.2.2, ?_⟩
    rw [← h2, List.take_succ_eq_append_getElem hk]

/-- Heights stay in bounds. -/
theorem k145 {i v o : Int} {bs : List TM} : ∀ (l : List IN) (n : Int) (acc : List Int) (m : Int) (L : List Int), 0 ≤ n ∧ n ≤ 40 → hgt i v o bs l n acc = some (m, L) → 0 ≤ m ∧ m ≤ 40
  | [], n, acc, m, L, hn, h => by simp only [hgt, Option.some.injEq, Prod.mk.injEq] at h; omega
  | x :: r, n, acc, m, L, hn, h => by
    simp only [hgt] at h
    have hg := gvI_in x
    cases hc : (fitI i v o bs x && (leI (tkI bs x) n && leI (n - tkI bs x + gvI x) 40)) with
    | false => rw [hc] at h; cases h
    | true =>
      rw [hc, cond_true] at h
      simp only [Bool.and_eq_true, leI_iff] at hc
      exact k145 r _ _ m L (by omega) h

/-- Heights that are there stay. -/
theorem k15h {i v o : Int} {bs : List TM} : ∀ (l : List IN) (n : Int) (acc : List Int) (m : Int) (L : List Int), hgt i v o bs l n acc = some (m, L) → ∃ r, L = acc ++ r
  | [], n, acc, m, L, h => by simp only [hgt, Option.some.injEq, Prod.mk.injEq] at h; exact ⟨[], by rw [List.append_nil]; exact h.2.symm⟩
  | x :: r, n, acc, m, L, h => by
    simp only [hgt] at h
    cases hc : (fitI i v o bs x && (leI (tkI bs x) n && leI (n - tkI bs x + gvI x) 40)) with
    | false => rw [hc] at h; cases h
    | true =>
      rw [hc, cond_true] at h
      obtain ⟨q, hq⟩ := k15h r _ _ m L h
      exact ⟨(n - tkI bs x + gvI x) :: q, by rw [hq, List.append_assoc]; rfl⟩

/-- The height at a place, as the list of heights has it. -/
theorem k15f {i v o : Int} {bs : List TM} {st : List IN} (hok : hgtOk i v o bs st = true) : ∀ (k : Nat), k ≤ st.length →
    ∃ n L, hgt i v o bs (st.take k) 0 [] = some (n, L) ∧ (0 ≤ n ∧ n ≤ 40) ∧ (k = 0 → n = 0) ∧ (0 < k → atZ (hgtL i v o bs st) ((k : Int) - 1) = n)
  | 0, _ => ⟨0, [], by simp [hgt], by omega, fun _ => rfl, fun h => by omega⟩
  | k + 1, hk => by
    obtain ⟨n, L, h1, h2, _, _⟩ := k15f hok k (by omega)
    obtain ⟨g1, g2, g3, g4⟩ := hgt_at hok (k := k) (by omega) h1
    refine ⟨_, _, g4, k145 _ _ _ _ _ (by omega) g4, fun h => by omega, fun _ => ?_⟩
    have hs : st = st.take (k + 1) ++ st.drop (k + 1) := (List.take_append_drop ..).symm
    have hw := kzv (i := i) (v := v) (o := o) (bs := bs) (st.take (k + 1)) (st.drop (k + 1)) 0 []
    rw [← hs, g4] at hw
    simp only at hw
    unfold hgtL
    cases hh : hgt i v o bs st 0 [] with
    | none =>
      simp only [hgtOk, hh] at hok
      cases hok
    | some r =>
      obtain ⟨m, out⟩ := r
      rw [hh] at hw
      obtain ⟨q, hq⟩ := k15h _ _ _ _ _ hw.symm
      have hl := k15o _ _ _ _ _ h1
      rw [List.length_take, List.length_nil] at hl
      simp only [atZ]
      have hi : (((k + 1 : Nat) : Int) - 1).toNat = L.length := by omega
      rw [hi, hq, List.append_assoc, List.getElem?_append_right (Nat.le_refl _), Nat.sub_self]
      rfl

/-- A possible machine. -/
structure OkM (i v o : Int) (bs : List TM) (st : List IN) (k : Int) (stk xs os : List Int) (ss : List BS3) : Prop where
  lo : 0 ≤ k
  hi : k ≤ st.length
  hg : ∃ L, hgt i v o bs (st.take k.toNat) 0 [] = some ((stk.length : Int), L)
  bt : ∀ z ∈ stk, z = 0 ∨ z = 1
  vl : bitsB v xs = true
  ou : bitsB o os = true
  sl : ss.length = bs.length
  sp : ∀ k, k < bs.length → possAt bs ss k = true

theorem k10z {l : List Int} (h : ∀ z ∈ l, z = 0 ∨ z = 1) (k : Int) : atZ l k = 0 ∨ atZ l k = 1 := by
  unfold atZ
  cases hk : l[k.toNat]? with
  | none => exact .inl rfl
  | some z => exact h z (List.mem_of_getElem? hk)

theorem k14t {n : Int} {l : List Int} (h : bitsB n l = true) (k : Nat) {z : Int} (hz : z = 0 ∨ z = 1) : bitsB n (l.set k z) = true := by
  obtain ⟨h1, h2⟩ := kae.1 h
  refine kae.2 ⟨fun y hy => ?_, by rw [List.length_set]; exact h2⟩
  rcases List.mem_or_eq_of_mem_set hy with hy | rfl
  · exact h1 y hy
  · exact hz

theorem k14x {n : Int} {l : List Int} (h : bitsB n l = true) (z : Int) : bitsB n (mskM l z) = true := by
  unfold mskM
  cases z == 0 with
  | false => exact h
  | true =>
    refine kae.2 ⟨fun y hy => .inl (List.eq_of_mem_replicate hy), ?_⟩
    simp only [cond_true, List.length_replicate]
    exact (kae.1 h).2

/-- What a block gives is a bit. -/
theorem k166 {k n a b c : Int} {s : ByteArray} {l : List Int} (hB : blockB k s n = true) (hP : possB k n a b c = true) (hA : bitsB (takesK k) l = true) : k45 k n a b c l = 0 ∨ k45 k n a b c l = 1 := by
  obtain ⟨hk, hn, _⟩ := k11x hB
  have hb := (k120 hP hn).2.1
  have hc := (k120 hP hn).2.2
  have hp := hP
  rcases kinds hk with rfl | rfl | rfl | rfl | rfl | rfl
  · obtain ⟨x, rfl, hx⟩ := k102 hA
    rcases hx with rfl | rfl <;> simp only [k28, k5u, k7c, k48, k78, k79, k7g, k7b, k67, k45, k66, k65, k60, k7v, k54, k5v, k6e, k7a, k7h, k8y, k8x, k8z, k91, k5w] <;> simp [Bool.cond_eq_ite] <;> (repeat' split) <;> omega
  · obtain ⟨x, rfl, hx⟩ := k102 hA
    rcases hx with rfl | rfl <;> simp only [k28, k5u, k7c, k48, k78, k79, k7g, k7b, k67, k45, k66, k65, k60, k7v, k54, k5v, k6e, k7a, k7h, k8y, k8x, k8z, k91, k5w] <;> simp [Bool.cond_eq_ite] <;> (repeat' split) <;> omega
  · obtain ⟨x, rfl, hx⟩ := k102 hA
    simp [possB, k2e, k1r] at hp
    rcases hx with rfl | rfl <;> simp only [k28, k5u, k7c, k48, k78, k79, k7g, k7b, k67, k45, k66, k65, k60, k7v, k54, k5v, k6e, k7a, k7h, k8y, k8x, k8z, k91, k5w] <;> simp [Bool.cond_eq_ite] <;> (repeat' split) <;> omega
  · obtain ⟨x, y, rfl, hx, hy⟩ := kzy hA
    simp [possB, k2e, k1r] at hp
    rcases hx with rfl | rfl <;> rcases hy with rfl | rfl <;> simp only [k28, k5u, k7c, k48, k78, k79, k7g, k7b, k67, k45, k66, k65, k60, k7v, k54, k5v, k6e, k7a, k7h, k8y, k8x, k8z, k91, k5w] <;> simp [Bool.cond_eq_ite] <;> (repeat' split) <;> omega
  · obtain ⟨x, y, rfl, hx, hy⟩ := kzy hA
    rcases hb with rfl | rfl <;> rcases hc with rfl | rfl <;> rcases hx with rfl | rfl <;> rcases hy with rfl | rfl <;> simp only [k28, k5u, k7c, k48, k78, k79, k7g, k7b, k67, k45, k66, k65, k60, k7v, k54, k5v, k6e, k7a, k7h, k8y, k8x, k8z, k91, k5w] <;> simp [Bool.cond_eq_ite] <;> (repeat' split) <;> omega
  · obtain ⟨x, y, rfl, hx, hy⟩ := kzy hA
    rcases hb with rfl | rfl <;> rcases hc with rfl | rfl <;> rcases hx with rfl | rfl <;> rcases hy with rfl | rfl <;> simp only [k28, k5u, k7c, k48, k78, k79, k7g, k7b, k67, k45, k66, k65, k60, k7v, k54, k5v, k6e, k7a, k7h, k8y, k8x, k8z, k91, k5w] <;> simp [Bool.cond_eq_ite] <;> (repeat' split) <;> omega

theorem k15t {bs : List TM} {x : IN} {stk : List Int} (hb : ∀ z ∈ stk, z = 0 ∨ z = 1) (ht : tkI bs x ≤ stk.length) : bitsB (tkI bs x) (argI bs x stk) = true := by
  have h0 := (tkI_in bs x).1
  refine kae.2 ⟨fun z hz => hb z (List.mem_of_mem_drop hz), ?_⟩
  simp only [argI, List.length_drop]
  omega

theorem k12s {bs : List TM} {x : IN} {stk : List Int} (ht : tkI bs x ≤ stk.length) : ((rstI bs x stk).length : Int) = stk.length - tkI bs x := by
  have h0 := (tkI_in bs x).1
  simp only [rstI, List.length_take]
  omega

/-- A step of a possible machine. -/
theorem k14u {i v o : Int} {bs : List TM} {st : List IN} {inp : List Int} {k : Int} {stk xs os : List Int} {ss : List BS3} (hC : codeB i v o bs st = true) (hin : bitsB i inp = true)
    (h : OkM i v o bs st k stk xs os ss) (hlt : k < st.length) {x : IN} (hx : st[k.toNat]? = some x) :
    fitI i v o bs x = true ∧ tkI bs x ≤ stk.length ∧ bitsB (tkI bs x) (argI bs x stk) = true ∧ (valM bs inp x xs ss (argI bs x stk) = 0 ∨ valM bs inp x xs ss (argI bs x stk) = 1) ∧ stk.length ≤ 40 ∧
    OkM i v o bs st (k + 1) (stkM bs inp x stk xs ss) (vlsM bs x stk xs) (outM bs inp x stk xs os) (blkM bs x stk ss) := by
  simp only [codeB, Bool.and_eq_true] at hC
  obtain ⟨hr, hB, hok⟩ := hC
  obtain ⟨ri, rv, ro, rb, rs⟩ := kvs.1 hr
  have h0 := h.lo
  have hk : k.toNat < st.length := by omega
  have hxe : st[k.toNat] = x := by rw [List.getElem?_eq_getElem hk] at hx; exact Option.some.inj hx
  obtain ⟨L, hL⟩ := h.hg
  obtain ⟨g1, g2, g3, g4⟩ := hgt_at hok hk hL
  rw [hxe] at g1 g2 g3 g4
  have hab := k15t h.bt g2
  have hrl := k12s g2
  have t2 := tkI_in bs x
  have v2 := gvI_in x
  have hvb := (kae.1 h.vl).1
  have hob := (kae.1 h.ou).1
  have hib := (kae.1 hin).1
  have hargb := (kae.1 hab).1
  have ha0 := k10z hargb 0
  have ha1 := k10z hargb 1
  have hblk : x.1 = 7 → 0 ≤ x.2 ∧ x.2 < bs.length → k45 (termAt bs x.2.toNat).1 (termAt bs x.2.toNat).2.2 (stAt ss x.2.toNat).1 (stAt ss x.2.toNat).2.1 (stAt ss x.2.toNat).2.2 (argI bs x stk) = 0 ∨ k45 (termAt bs x.2.toNat).1 (termAt bs x.2.toNat).2.2 (stAt ss x.2.toNat).1 (stAt ss x.2.toNat).2.1 (stAt ss x.2.toNat).2.2 (argI bs x stk) = 1 := fun h7 hr7 => by
    have hlt7 : x.2.toNat < bs.length := by omega
    have hg7 : termAt bs x.2.toNat = bs[x.2.toNat] := by simp only [termAt, List.getElem?_eq_getElem hlt7]; rfl
    have hB7 : blockB (termAt bs x.2.toNat).1 (termAt bs x.2.toNat).2.1 (termAt bs x.2.toNat).2.2 = true := by rw [hg7]; exact List.all_eq_true.1 hB _ (List.getElem_mem hlt7)
    have htk : tkI bs x = takesK (termAt bs x.2.toNat).1 := by simp [tkI, k3l, k82, k86, kcw, h7, takesK, termAt]
    exact k166 hB7 (h.sp _ hlt7) (by rw [← htk]; exact hab)
  have hnx : x.1 = 7 → 0 ≤ x.2 ∧ x.2 < bs.length → possB (termAt bs x.2.toNat).1 (termAt bs x.2.toNat).2.2 (nextB (termAt bs x.2.toNat).1 (termAt bs x.2.toNat).2.2 (argI bs x stk) (stAt ss x.2.toNat)).1 (nextB (termAt bs x.2.toNat).1 (termAt bs x.2.toNat).2.2 (argI bs x stk) (stAt ss x.2.toNat)).2.1 (nextB (termAt bs x.2.toNat).1 (termAt bs x.2.toNat).2.2 (argI bs x stk) (stAt ss x.2.toNat)).2.2 = true := fun h7 hr7 => by
    have hlt7 : x.2.toNat < bs.length := by omega
    have hg7 : termAt bs x.2.toNat = bs[x.2.toNat] := by simp only [termAt, List.getElem?_eq_getElem hlt7]; rfl
    have hB7 : blockB (termAt bs x.2.toNat).1 (termAt bs x.2.toNat).2.1 (termAt bs x.2.toNat).2.2 = true := by rw [hg7]; exact List.all_eq_true.1 hB _ (List.getElem_mem hlt7)
    have htk : tkI bs x = takesK (termAt bs x.2.toNat).1 := by simp [tkI, k3l, k82, k86, kcw, h7, takesK, termAt]
    exact (k15z hB7 (h.sp _ hlt7) (by rw [← htk]; exact hab)).2
  have hval : valM bs inp x xs ss (argI bs x stk) = 0 ∨ valM bs inp x xs ss (argI bs x stk) = 1 := by
    rcases k11t ri rv ro rb g1 with ⟨e, q⟩ | ⟨e, q⟩ | ⟨e, q⟩ | e | e | e | ⟨e, q⟩ | ⟨e, q⟩ | ⟨e, q⟩ | ⟨e, q⟩ | ⟨e, q⟩
    · simp only [valM, e]; exact q
    · simp only [valM, e]; exact k10z hib _
    · simp only [valM, e]; exact k10z hvb _
    · simp only [valM, e]
      show 1 - atZ (argI bs x stk) 0 = 0 ∨ 1 - atZ (argI bs x stk) 0 = 1
      omega
    · simp only [valM, e]
      show andI (atZ (argI bs x stk) 0) (atZ (argI bs x stk) 1) = 0 ∨ andI (atZ (argI bs x stk) 0) (atZ (argI bs x stk) 1) = 1
      rcases ha0 with q | q <;> rw [q]
      · exact .inl rfl
      · exact ha1
    · simp only [valM, e]
      show orI (atZ (argI bs x stk) 0) (atZ (argI bs x stk) 1) = 0 ∨ orI (atZ (argI bs x stk) 0) (atZ (argI bs x stk) 1) = 1
      rcases ha0 with q | q <;> rw [q]
      · exact ha1
      · exact .inr rfl
    · have := hblk e q
      simp only [valM, e]
      exact this
    all_goals (simp only [valM, e]; exact .inl rfl)
  refine ⟨g1, g2, hab, hval, ?_, ⟨by omega, by omega, ?_, ?_, ?_, ?_, ?_, ?_⟩⟩
  · have := k145 _ _ _ _ _ (by omega) hL
    omega
  · refine ⟨L ++ [stk.length - tkI bs x + gvI x], ?_⟩
    have hs : (k + 1).toNat = k.toNat + 1 := by omega
    rw [hs, g4]
    have : ((stkM bs inp x stk xs ss).length : Int) = stk.length - tkI bs x + gvI x := by
      unfold stkM
      by_cases hgv : gvI x = 1
      · simp only [hgv, beq_self_eq_true, cond_true, List.length_append, List.length_singleton]; omega
      · have h1 : (gvI x == 1) = false := by simpa using hgv
        rw [h1, cond_false]; omega
    rw [this]
  · intro z hz
    unfold stkM at hz
    have hr : ∀ z ∈ rstI bs x stk, z = 0 ∨ z = 1 := fun z hz => h.bt z (List.mem_of_mem_take hz)
    cases hgv : (gvI x == 1) with
    | false => rw [hgv] at hz; exact hr z hz
    | true =>
      rw [hgv, cond_true] at hz
      rcases List.mem_append.1 hz with hz | hz
      · exact hr z hz
      · rw [List.mem_singleton.1 hz]; exact hval
  · unfold vlsM
    cases x.1 == 8 with
    | false => exact h.vl
    | true => exact k14t h.vl _ ha0
  · unfold outM
    cases x.1 == 9 with
    | true => exact k14t h.ou _ ha0
    | false =>
      cases x.1 == 10 with
      | true => exact k14x h.ou _
      | false =>
        cases x.1 == 11 with
        | true => exact k14x h.ou _
        | false => exact h.ou
  · unfold blkM
    cases x.1 == 7 with
    | false => exact h.sl
    | true => simp only [cond_true, List.length_set]; exact h.sl
  · intro k2 hk2
    unfold blkM
    cases h7 : x.1 == 7 with
    | false => exact h.sp k2 hk2
    | true =>
      simp only [cond_true]
      have h7 : x.1 = 7 := by simpa using h7
      have hq : 0 ≤ x.2 ∧ x.2 < bs.length := by
        rcases k11t ri rv ro rb g1 with ⟨e, q⟩ | ⟨e, q⟩ | ⟨e, q⟩ | e | e | e | ⟨e, q⟩ | ⟨e, q⟩ | ⟨e, q⟩ | ⟨e, q⟩ | ⟨e, q⟩ <;> first | exact q | omega
      by_cases he : k2 = x.2.toNat
      · subst he
        have := hnx h7 hq
        have hl : x.2.toNat < ss.length := by rw [h.sl]; omega
        unfold possAt
        have hs : stAt (ss.set x.2.toNat (nextB (termAt bs x.2.toNat).1 (termAt bs x.2.toNat).2.2 (argI bs x stk) (stAt ss x.2.toNat))) x.2.toNat = nextB (termAt bs x.2.toNat).1 (termAt bs x.2.toNat).2.2 (argI bs x stk) (stAt ss x.2.toNat) := by
          simp only [stAt, List.getElem?_set_self hl, Option.getD_some]
        rw [hs]; exact this
      · have hs : ∀ y, stAt (ss.set x.2.toNat y) k2 = stAt ss k2 := fun y => by
          simp only [stAt, List.getElem?_set_ne (Ne.symm he)]
        unfold possAt
        rw [hs]; exact h.sp k2 hk2

end Go.SX

namespace Go.SX
open Go.Proofs
set_option maxRecDepth 100000

theorem k163 (x3 x4 x5 : Int) (x6 : List TM) (x8 x9 x10 x11 x12 : List Int) (x13 : List BS3) (h : kg x3 x4 x6 x8 x9 x11 x13 = true) :
    k83 x3 x5 = x5 ∧ k88 x3 x8 = x8 ∧ k8a x3 x10 = x10 ∧ k81 x3 x11 = x11 ∧ k8c x3 x12 = x12 ∧ kg x3 x4 x6 x8 x9 x11 x13 = true :=
  ⟨by simp only [k83, Bool.cond_self], by simp only [k88, Bool.cond_self], by simp only [k8a, Bool.cond_self], by simp only [k81, Bool.cond_self], by simp only [k8c, Bool.cond_self], h⟩

def k5f : List SV → List Entry → Option Out
  | [.one ⟨false, [.ptr 0 0]⟩, .one ⟨true, [.val (.int .i64 _x0), .val (.int .i64 _x1), .val (.int .i64 _x2), .ref 1, .ref 2]⟩, .one ⟨true, [.val (.int .i64 x3), .val (.int .i64 x4)]⟩, .one ⟨false, [.ref 3]⟩, .one ⟨false, [.ref 4]⟩], [.box 77 [.val (.int .i64 x5), .ref 5, .ref 6, .ref 7, .ref 8], .row false 178 (.pair (.int .i64) (.pair .str (.int .i64))) x6, .row false 150 (.pair (.int .i64) (.int .i64)) x7, .row true 2 (.int .i64) x8, .row false 2 (.int .i64) x9, .row true 2 (.int .i64) x10, .row true 2 (.int .i64) x11, .row true 2 (.int .i64) x12, .row true 172 (.pair (.int .i64) (.pair (.int .i64) (.int .i64))) x13] => some ⟨(.one ⟨false, [(.val (.int IntKind.i64 (k1e x3 x4 x6 x8 x9 x11 x13)))]⟩), [(.box 77 [(.val (.int IntKind.i64 (x5))), (.ref 5), (.ref 6), (.ref 7), (.ref 8)]), (.row false 178 (CTy.pair (CTy.int IntKind.i64) (CTy.pair CTy.str (CTy.int IntKind.i64))) x6), (.row false 150 (CTy.pair (CTy.int IntKind.i64) (CTy.int IntKind.i64)) x7), (.row true 2 (CTy.int IntKind.i64) (x8)), (.row false 2 (CTy.int IntKind.i64) x9), (.row true 2 (CTy.int IntKind.i64) (x10)), (.row true 2 (CTy.int IntKind.i64) (x11)), (.row true 2 (CTy.int IntKind.i64) (x12)), (.row true 172 (CTy.pair (CTy.int IntKind.i64) (CTy.pair (CTy.int IntKind.i64) (CTy.int IntKind.i64))) (k2v x3 x4 x6 x8 x13))], [], [kg x3 x4 x6 x8 x9 x11 x13]⟩
  | _, _ => none

def kkd : PF Tryz.prog := PF.alt kku k5f (by
  intro args es o h hnd; unfold k5f at h; split at h
  · rename_i _x0 _x1 _x2 x3 x4 x5 x6 x7 x8 x9 x10 x11 x12 x13
    cases h
    have hnd := nd_fst hnd
    have hh := k163 x3 x4 x5 x6 x8 x9 x10 x11 x12 x13 hnd
    obtain ⟨e1, e2, e3, e4, e5, en⟩ := hh
    exact altok rfl (nd_one en) rfl (by simp only [e1, e2, e3, e4, e5] <;> rfl) rfl
  · cases h)

def k_give : PF Tryz.prog := PF.kept kkd [0] (by
  intro args es o h
  have h : k5f args es = some o := h
  unfold k5f at h; split at h
  · cases h; exact List.forall_mem_cons.2 ⟨rfl, fun _ h => (by cases h)⟩
  · cases h)

end Go.SX

namespace Go.SX
open Go.Proofs
set_option maxRecDepth 100000

def ke (x3 : Int) (x5 : List (Int × Int)) : Int × Int :=
  Option.getD x5[Int.toNat x3]? ((0 : Int), (0 : Int))

def k17 (x3 : Int) (x5 : List (Int × Int)) : Bool :=
  k1n (Prod.fst (ke x3 x5)) == (1 : Int)

def k80 (x3 : Int) : Int :=
  IntKind.wrap IntKind.i64 (x3 + (1 : Int))

def kh (x3 : Int) (x4 : List (Int × ByteArray × Int)) (x5 : List (Int × Int)) (x7 : List Int) : Int :=
  IntKind.wrap IntKind.i64
  (koo x7 -
    k18 (Prod.fst (ke x3 x5))
      (Prod.snd (ke x3 x5)) x4)

def km (x3 : Int) (x4 : List (Int × ByteArray × Int)) (x5 : List (Int × Int)) (x6 : List Int) (x7 : List Int) (x8 : List Int) (x10 : List (Int × Int × Int)) : List Int :=
  [k1e (Prod.fst (ke x3 x5))
    (Prod.snd (ke x3 x5)) x4
    (List.drop (Int.toNat (kh x3 x4 x5 x7)) x7) x6 x8 x10]

def k57 (x3 : Int) (x5 : List (Int × Int)) : Int :=
  bif k17 x3 x5 then k80 x3
  else k80 x3

def k5d (x3 : Int) (x4 : List (Int × ByteArray × Int)) (x5 : List (Int × Int)) (x7 : List Int) (x8 : List Int) : List Int :=
  bif k17 x3 x5 then x8
  else
  k7w (Prod.fst (ke x3 x5))
    (Prod.snd (ke x3 x5))
    (List.drop (Int.toNat (kh x3 x4 x5 x7)) x7) x8

def k5a (x3 : Int) (x4 : List (Int × ByteArray × Int)) (x5 : List (Int × Int)) (x6 : List Int) (x7 : List Int) (x8 : List Int) (x9 : List Int) : List Int :=
  bif k17 x3 x5 then x9
  else
  k4q (Prod.fst (ke x3 x5))
    (Prod.snd (ke x3 x5))
    (List.drop (Int.toNat (kh x3 x4 x5 x7)) x7) x6 x8 x9

def k5e (x3 : Int) (x4 : List (Int × ByteArray × Int)) (x5 : List (Int × Int)) (x7 : List Int) (x10 : List (Int × Int × Int)) : List (Int × (Int × Int)) :=
  bif k17 x3 x5 then
  k2v (Prod.fst (ke x3 x5))
    (Prod.snd (ke x3 x5)) x4
    (List.drop (Int.toNat (kh x3 x4 x5 x7)) x7) x10
  else x10

def k58 (x3 : Int) (x4 : List (Int × ByteArray × Int)) (x5 : List (Int × Int)) (x6 : List Int) (x7 : List Int) (x8 : List Int) (x10 : List (Int × Int × Int)) : List Int :=
  bif k17 x3 x5 then
  List.take (Int.toNat (kh x3 x4 x5 x7)) x7 ++
    km x3 x4 x5 x6 x7 x8 x10
  else List.take (Int.toNat (kh x3 x4 x5 x7)) x7

def kt (x3 : Int) (x4 : List (Int × ByteArray × Int)) (x5 : List (Int × Int)) (x6 : List Int) (x7 : List Int) (x8 : List Int) (x9 : List Int) (x10 : List (Int × Int × Int)) : Bool :=
  allT
  [leI (0 : Int) x3, ltI x3 (↑(List.length x5) : Int), ltN (Int.toNat x3) (List.length x5),
    k4h (Prod.fst (ke x3 x5))
      (Prod.snd (ke x3 x5)) x4,
    leI (0 : Int) (kh x3 x4 x5 x7),
    leI (kh x3 x4 x5 x7) (↑(List.length x7) : Int),
    leN (Int.toNat (kh x3 x4 x5 x7)) (List.length x7),
    leN (List.length (List.drop (Int.toNat (kh x3 x4 x5 x7)) x7)) (1048576 : Nat),
    leI (0 : Int) (kh x3 x4 x5 x7),
    leI (kh x3 x4 x5 x7) (↑(List.length x7) : Int),
    !k17 x3 x5 ||
      kg (Prod.fst (ke x3 x5))
        (Prod.snd (ke x3 x5)) x4
        (List.drop (Int.toNat (kh x3 x4 x5 x7)) x7) x6 x8 x10,
    !k17 x3 x5 ||
      leN
        (List.length (List.take (Int.toNat (kh x3 x4 x5 x7)) x7) +
          List.length (km x3 x4 x5 x6 x7 x8 x10))
        (9223372036854775807 : Nat),
    !k17 x3 x5 ||
      leN
        ((List.length (List.take (Int.toNat (kh x3 x4 x5 x7)) x7) +
            List.length (km x3 x4 x5 x6 x7 x8 x10)) *
          (8 : Nat))
        (140737488355328 : Nat),
    k17 x3 x5 ||
      k1c (Prod.fst (ke x3 x5))
        (Prod.snd (ke x3 x5))
        (List.drop (Int.toNat (kh x3 x4 x5 x7)) x7) x6 x8 x9]

def kd1 : List SV → List Entry → Option Out
  | [.one ⟨false, [.ptr 0 0]⟩, .one ⟨true, [.val (.int .i64 _x0), .val (.int .i64 _x1), .val (.int .i64 _x2), .ref 1, .ref 2]⟩, .one ⟨false, [.ref 3]⟩], [.box 77 [.val (.int .i64 x3), .ref 4, .ref 5, .ref 6, .ref 7], .row false 178 (.pair (.int .i64) (.pair .str (.int .i64))) x4, .row false 150 (.pair (.int .i64) (.int .i64)) x5, .row false 2 (.int .i64) x6, .row true 2 (.int .i64) x7, .row true 2 (.int .i64) x8, .row true 2 (.int .i64) x9, .row true 172 (.pair (.int .i64) (.pair (.int .i64) (.int .i64))) x10] => some ⟨(.tup []), [(.box 77 [(.val (.int IntKind.i64 (k57 x3 x5))), (.ref 8), (.ref 5), (.ref 6), (.ref 7)]), (.row false 178 (CTy.pair (CTy.int IntKind.i64) (CTy.pair CTy.str (CTy.int IntKind.i64))) x4), (.row false 150 (CTy.pair (CTy.int IntKind.i64) (CTy.int IntKind.i64)) x5), (.row false 2 (CTy.int IntKind.i64) x6), .gone, (.row true 2 (CTy.int IntKind.i64) (k5d x3 x4 x5 x7 x8)), (.row true 2 (CTy.int IntKind.i64) (k5a x3 x4 x5 x6 x7 x8 x9)), (.row true 172 (CTy.pair (CTy.int IntKind.i64) (CTy.pair (CTy.int IntKind.i64) (CTy.int IntKind.i64))) (k5e x3 x4 x5 x7 x10))], [(.row true 2 (CTy.int IntKind.i64) (k58 x3 x4 x5 x6 x7 x8 x10))], [(kt x3 x4 x5 x6 x7 x8 x9 x10)]⟩
  | _, _ => none

def kd5 : PF Tryz.prog := PF.ofG Tryz.prog [PF.views Tryz.prog, k8h, PF.lend k8h, PF.lend (PF.view k8h), k24, PF.lend k24, ksh, PF.lend ksh, k_give, kji] [] hmix 126 Tryz.f126 Tryz.func126 (fun c _ => LOk.nil c) kd1 (by
  intro vs es r h; unfold kd1 at h; split at h
  · cases h; kernel_rfl
  · cases h)

end Go.SX

namespace Go.SX
open Go.Proofs
set_option maxRecDepth 100000

theorem k14m {a b : Int} (ha : a = 0 ∨ a = 1) (hb : b = 0 ∨ b = 1) : IntKind.i64.wrap ((BitVec.toNat (BitVec.ofInt (IntKind.bits IntKind.i64) a &&& BitVec.ofInt (IntKind.bits IntKind.i64) b) : Nat) : Int) = andI a b := by
  rcases ha with rfl | rfl <;> rcases hb with rfl | rfl <;> rfl
theorem k15j {a b : Int} (ha : a = 0 ∨ a = 1) (hb : b = 0 ∨ b = 1) : IntKind.i64.wrap ((BitVec.toNat (BitVec.ofInt (IntKind.bits IntKind.i64) a ||| BitVec.ofInt (IntKind.bits IntKind.i64) b) : Nat) : Int) = orI a b := by
  rcases ha with rfl | rfl <;> rcases hb with rfl | rfl <;> rfl
theorem k15n {a : Int} (ha : a = 0 ∨ a = 1) : IntKind.i64.wrap (1 - a) = 1 - a := by rcases ha with rfl | rfl <;> rfl

theorem k15l {bs : List TM} {x : IN} {stk : List Int} (h : bitsB (tkI bs x) (argI bs x stk) = true) : ((argI bs x stk).length : Int) = tkI bs x := (kae.1 h).2

/-- What an instruction takes and gives. -/
theorem tk_of {bs : List TM} {x : IN} : (x.1 = 4 → tkI bs x = 1) ∧ (x.1 = 5 → tkI bs x = 2) ∧ (x.1 = 6 → tkI bs x = 2) ∧ (x.1 = 8 → tkI bs x = 1) ∧ (x.1 = 9 → tkI bs x = 1) ∧ (x.1 = 7 → tkI bs x = takesK (termAt bs x.2.toNat).1) := by
  refine ⟨fun h => ?_, fun h => ?_, fun h => ?_, fun h => ?_, fun h => ?_, fun h => ?_⟩ <;> simp [tkI, k3l, k82, k86, kcw, h, takesK, termAt]

theorem gv_of {x : IN} : ((x.1 = 1 ∨ x.1 = 2 ∨ x.1 = 3 ∨ x.1 = 4 ∨ x.1 = 5 ∨ x.1 = 6 ∨ x.1 = 7) → gvI x = 1) ∧ ((x.1 = 8 ∨ x.1 = 9 ∨ x.1 = 10 ∨ x.1 = 11) → gvI x = 0) := by
  refine ⟨fun h => ?_, fun h => ?_⟩
  · rcases h with h | h | h | h | h | h | h <;> simp [gvI, k6b, k82, k86, kcw, h]
  · rcases h with h | h | h | h <;> simp [gvI, k6b, k82, k86, kcw, h]

/-- The reference's step. -/
theorem specStep {i v o : Int} {bs : List TM} {st : List IN} {inp : List Int} {k : Int} {stk xs os : List Int} {ss : List BS3} (hC : codeB i v o bs st = true) (hin : bitsB i inp = true)
    (h : OkM i v o bs st k stk xs os ss) (hlt : k < st.length) {x : IN} (hx : st[k.toNat]? = some x) :
    koe k st = k + 1 ∧ ko2 k bs st stk xs ss inp = stkM bs inp x stk xs ss ∧ kqv k bs st stk xs = vlsM bs x stk xs ∧
    kqy k bs st stk xs os inp = outM bs inp x stk xs os ∧ kqs k bs st stk ss = blkM bs x stk ss ∧ k90 k bs st stk xs os ss inp = true := by
  obtain ⟨g1, g2, g3, g4, g5, _⟩ := k14u hC hin h hlt hx
  simp only [codeB, Bool.and_eq_true] at hC
  obtain ⟨hr, hB, hok⟩ := hC
  obtain ⟨ri, rv, ro, rb, rs⟩ := kvs.1 hr
  have h0 := h.lo
  have t2 := tkI_in bs x
  have hxl := (kae.1 h.vl).2
  have hol := (kae.1 h.ou).2
  have hil := (kae.1 hin).2
  have hsl := h.sl
  have hargb := (kae.1 g3).1
  have hal := k15l g3
  have ha0 := k10z hargb 0
  have ha1 := k10z hargb 1
  have e0 : kz k st = x := by simp only [kz, hx, Option.getD_some]
  have w3 : IntKind.i64.wrap (k + 1) = k + 1 := wrap_i64 (by omega) (by omega)
  have e14 : kei k bs st stk = stk.length - tkI bs x := by
    simp only [kei, e0]
    exact wrap_i64 (by have : k3l x.1 x.2 bs = tkI bs x := rfl; omega) (by have : k3l x.1 x.2 bs = tkI bs x := rfl; omega)
  have en : (((stk.length : Int) - tkI bs x)).toNat = stk.length - (tkI bs x).toNat := by omega
  have e15 : k1d k bs st stk = rstI bs x stk := by simp only [k1d, e14, en, rstI]; rfl
  have e18 : k5h k bs st stk = argI bs x stk := by simp only [k5h, e14, en, argI, Int.toNat_natCast, List.take_length]
  have e19 : kgf k bs st stk = atZ (argI bs x stk) 0 := by simp only [kgf, e18, atZ]
  have e20 : ∀ d : Int, Option.getD (argI bs x stk)[Int.toNat (1 : Int)]? d = Option.getD (argI bs x stk)[Int.toNat (1 : Int)]? d := fun _ => rfl
  have hl1 : leN (rstI bs x stk).length 1048576 = true := leN_t (by have := k12s g2; omega)
  have hl2 : leN (argI bs x stk).length 1048576 = true := leN_t (by omega)
  have hl3 : leN xs.length 1048576 = true := leN_t (by omega)
  have hl4 : leN os.length 1048576 = true := leN_t (by omega)
  have hl5 : leN (0 + ss.length) 9223372036854775807 = true := leN_t (by omega)
  have hl6 : leN ((0 + ss.length) * 24) 140737488355328 = true := leN_t (by omega)
  have hl7 : leN ((rstI bs x stk).length + 1) 9223372036854775807 = true := leN_t (by have := k12s g2; omega)
  have hl8 : leN (((rstI bs x stk).length + 1) * 8) 140737488355328 = true := leN_t (by have := k12s g2; omega)
  have n1 : leI 0 k = true := leI_t h0
  have n2 : ltI k (st.length : Int) = true := ltI_t hlt
  have n3 : ltN k.toNat st.length = true := ltN_t (by omega)
  have n4 : kfg x.1 x.2 bs = true := fit_nd rb g1
  have n5 : leI 0 ((stk.length : Int) - tkI bs x) = true := leI_t (by omega)
  have n6 : leI ((stk.length : Int) - tkI bs x) (stk.length : Int) = true := leI_t (by omega)
  have n7 : ∀ n : Nat, leI (n : Int) (n : Int) = true := fun n => leI_t (by omega)
  have key : ∀ c : Int, x.1 = c → ka k st = (c == 1) ∧ kb k st = (c == 2) ∧ kf k st = (c == 3) ∧ ki k st = (c == 4) ∧ kk k st = (c == 5) ∧ ko k st = (c == 6) ∧
      k15 k st = (c == 7) ∧ k19 k st = (c == 8) ∧ k1q k st = (c == 9) ∧ k2l k st = (c == 10) ∧ k5i k st = (c == 11) ∧ kd k st = (gvI x == 1) := by
    intro c hc
    have h2 : k6b c = gvI x := by rw [← hc]; rfl
    refine ⟨?_, ?_, ?_, ?_, ?_, ?_, ?_, ?_, ?_, ?_, ?_, ?_⟩ <;> simp only [ka, kd, kb, kf, ki, kk, ko, k15, k19, k1q, k2l, k5i, e0, hc, h2]
  obtain ⟨tk4, tk5, tk6, tk8, tk9, tk7⟩ := tk_of (bs := bs) (x := x)
  obtain ⟨gv1, gv0⟩ := gv_of (x := x)
  have hB7 : x.1 = 7 → 0 ≤ x.2 ∧ x.2 < bs.length → blockB (termAt bs x.2.toNat).1 (termAt bs x.2.toNat).2.1 (termAt bs x.2.toNat).2.2 = true := fun _ hq => by
    have hlt7 : x.2.toNat < bs.length := by omega
    have hg7 : termAt bs x.2.toNat = bs[x.2.toNat] := by simp only [termAt, List.getElem?_eq_getElem hlt7]; rfl
    rw [hg7]; exact List.all_eq_true.1 hB _ (List.getElem_mem hlt7)
  have hs0 : koe k st = k + 1 := by simp only [koe, k2c, w3, Bool.cond_self]
  have hmask : ∀ (l : List Int) (z : Int), kjw z l = mskM l z := fun l z => by simp only [kjw, mskM, Int.toNat_natCast]
  have hcs := k11t ri rv ro rb g1
  have a16 : kee k st inp = atZ inp x.2 := by simp only [kee, e0, atZ]
  have a17 : ke9 k st xs = atZ xs x.2 := by simp only [ke9, e0, atZ]
  have a23 : kct k bs st = termAt bs x.2.toNat := by simp only [kct, e0, termAt]
  have a24 : k89 k st ss = stAt ss x.2.toNat := by simp only [k89, e0, stAt]
  have a27 : kor k bs st stk xs = xs.set x.2.toNat (atZ (argI bs x stk) 0) := by simp only [kor, e0, e19]
  have a28 : ko3 k bs st stk os = os.set x.2.toNat (atZ (argI bs x stk) 0) := by simp only [ko3, e0, e19]
  have a20 : k4i k bs st stk = [1 - atZ (argI bs x stk) 0] := by simp only [k4i, e19, k15n ha0]
  have a21 : k4m k bs st stk = [andI (atZ (argI bs x stk) 0) (atZ (argI bs x stk) 1)] := by
    simp only [k4m, e19, e18]
    exact congrArg (fun z => [z]) (k14m ha0 ha1)
  have a22 : k4n k bs st stk = [orI (atZ (argI bs x stk) 0) (atZ (argI bs x stk) 1)] := by
    simp only [k4n, e19, e18]
    exact congrArg (fun z => [z]) (k15j ha0 ha1)
  have a25 : k4j k bs st stk ss = [valB (termAt bs x.2.toNat).1 (termAt bs x.2.toNat).2.2 (argI bs x stk) (stAt ss x.2.toNat)] := by simp only [k4j, a23, a24, e18, valB]
  have a29 : ko1 k bs st stk ss = ss.set x.2.toNat (nextB (termAt bs x.2.toNat).1 (termAt bs x.2.toNat).2.2 (argI bs x stk) (stAt ss x.2.toNat)) := by simp only [ko1, a23, a24, e18, e0, nextB]
  refine ⟨hs0, ?_, ?_, ?_, ?_, ?_⟩
  · rcases hcs with ⟨e, q⟩ | ⟨e, q⟩ | ⟨e, q⟩ | e | e | e | ⟨e, q⟩ | ⟨e, q⟩ | ⟨e, q⟩ | ⟨e, q⟩ | ⟨e, q⟩ <;> (
      obtain ⟨k1, k4, k5, k6, k7, k8, k9, k10, k11, k12, k13, k2⟩ := key _ e
      first
      | (have gv : gvI x = 1 := gv1 (by omega)
         simp [ko2, kfv, stkM, valM, k1, k2, k4, k5, k6, k7, k8, k9, k10, k11, k12, k13, e0, e15, a16, a17, a20, a21, a22, a25, e, gv])
      | (have gv : gvI x = 0 := gv0 (by omega)
         simp [ko2, kfv, stkM, valM, k1, k2, k4, k5, k6, k7, k8, k9, k10, k11, k12, k13, e0, e15, a16, a17, a20, a21, a22, a25, e, gv]))
  · rcases hcs with ⟨e, q⟩ | ⟨e, q⟩ | ⟨e, q⟩ | e | e | e | ⟨e, q⟩ | ⟨e, q⟩ | ⟨e, q⟩ | ⟨e, q⟩ | ⟨e, q⟩ <;> (
      obtain ⟨k1, k4, k5, k6, k7, k8, k9, k10, k11, k12, k13, k2⟩ := key _ e
      simp [kqv, vlsM, Bool.cond_self, k1, k4, k5, k6, k7, k8, k9, k10, k11, k12, k13, a27, e])
  · rcases hcs with ⟨e, q⟩ | ⟨e, q⟩ | ⟨e, q⟩ | e | e | e | ⟨e, q⟩ | ⟨e, q⟩ | ⟨e, q⟩ | ⟨e, q⟩ | ⟨e, q⟩ <;> (
      obtain ⟨k1, k4, k5, k6, k7, k8, k9, k10, k11, k12, k13, k2⟩ := key _ e
      simp [kqy, outM, Bool.cond_self, k1, k4, k5, k6, k7, k8, k9, k10, k11, k12, k13, a28, a16, a17, hmask, e])
  · rcases hcs with ⟨e, q⟩ | ⟨e, q⟩ | ⟨e, q⟩ | e | e | e | ⟨e, q⟩ | ⟨e, q⟩ | ⟨e, q⟩ | ⟨e, q⟩ | ⟨e, q⟩ <;> (
      obtain ⟨k1, k4, k5, k6, k7, k8, k9, k10, k11, k12, k13, k2⟩ := key _ e
      simp [kqs, blkM, Bool.cond_self, k1, k4, k5, k6, k7, k8, k9, k10, k11, k12, k13, a29, e])
  · rcases hcs with ⟨e, q⟩ | ⟨e, q⟩ | ⟨e, q⟩ | e | e | e | ⟨e, q⟩ | ⟨e, q⟩ | ⟨e, q⟩ | ⟨e, q⟩ | ⟨e, q⟩
    · obtain ⟨k1, k4, k5, k6, k7, k8, k9, k10, k11, k12, k13, k2⟩ := key _ e
      have z0 : leI (0 : Int) 0 = true := rfl
      have z1 : leI (0 : Int) 1 = true := rfl
      simp [k90, allT, k1, k2, k4, k5, k6, k7, k8, k9, k10, k11, k12, k13, e0, e14, e15, e18, n1, n2, n3, n4, n5, n6, n7, hl1, hl2, hl3, hl4, hl5, hl6, hl7, hl8, k4i, k4m, k4n, k4j, k72, k5z, k4o, k4k, k6x, k77, k61, k6z, k6v, k4l, k4g, List.length_singleton, z0, z1] <;> omega
    · obtain ⟨k1, k4, k5, k6, k7, k8, k9, k10, k11, k12, k13, k2⟩ := key _ e
      have z0 : leI (0 : Int) 0 = true := rfl
      have z1 : leI (0 : Int) 1 = true := rfl
      have r1 : leI 0 x.2 = true := leI_t (by omega)
      have r2 : ltI x.2 (inp.length : Int) = true := ltI_t (by omega)
      have r3 : ltN x.2.toNat inp.length = true := ltN_t (by omega)
      simp [k90, allT, k1, k2, k4, k5, k6, k7, k8, k9, k10, k11, k12, k13, e0, e14, e15, e18, n1, n2, n3, n4, n5, n6, n7, hl1, hl2, hl3, hl4, hl5, hl6, hl7, hl8, k4i, k4m, k4n, k4j, k72, k5z, k4o, k4k, k6x, k77, k61, k6z, k6v, k4l, k4g, List.length_singleton, z0, z1, r1, r2, r3] <;> omega
    · obtain ⟨k1, k4, k5, k6, k7, k8, k9, k10, k11, k12, k13, k2⟩ := key _ e
      have z0 : leI (0 : Int) 0 = true := rfl
      have z1 : leI (0 : Int) 1 = true := rfl
      have r1 : leI 0 x.2 = true := leI_t (by omega)
      have r2 : ltI x.2 (xs.length : Int) = true := ltI_t (by omega)
      have r3 : ltN x.2.toNat xs.length = true := ltN_t (by omega)
      simp [k90, allT, k1, k2, k4, k5, k6, k7, k8, k9, k10, k11, k12, k13, e0, e14, e15, e18, n1, n2, n3, n4, n5, n6, n7, hl1, hl2, hl3, hl4, hl5, hl6, hl7, hl8, k4i, k4m, k4n, k4j, k72, k5z, k4o, k4k, k6x, k77, k61, k6z, k6v, k4l, k4g, List.length_singleton, z0, z1, r1, r2, r3] <;> omega
    · obtain ⟨k1, k4, k5, k6, k7, k8, k9, k10, k11, k12, k13, k2⟩ := key _ e
      have z0 : leI (0 : Int) 0 = true := rfl
      have z1 : leI (0 : Int) 1 = true := rfl
      have tk := tk4 e
      have s1 : ltI 0 ((argI bs x stk).length : Int) = true := ltI_t (by omega)
      have s2 : ltN (Int.toNat 0) (argI bs x stk).length = true := ltN_t (by simp only [Int.toNat_zero]; omega)
      simp [k90, allT, k1, k2, k4, k5, k6, k7, k8, k9, k10, k11, k12, k13, e0, e14, e15, e18, n1, n2, n3, n4, n5, n6, n7, hl1, hl2, hl3, hl4, hl5, hl6, hl7, hl8, k4i, k4m, k4n, k4j, k72, k5z, k4o, k4k, k6x, k77, k61, k6z, k6v, k4l, k4g, List.length_singleton, z0, z1, s1, s2] <;> omega
    · obtain ⟨k1, k4, k5, k6, k7, k8, k9, k10, k11, k12, k13, k2⟩ := key _ e
      have z0 : leI (0 : Int) 0 = true := rfl
      have z1 : leI (0 : Int) 1 = true := rfl
      have tk := tk5 e
      have s1 : ltI 0 ((argI bs x stk).length : Int) = true := ltI_t (by omega)
      have s2 : ltN (Int.toNat 0) (argI bs x stk).length = true := ltN_t (by simp only [Int.toNat_zero]; omega)
      have s3 : ltI 1 ((argI bs x stk).length : Int) = true := ltI_t (by omega)
      have s4 : ltN (Int.toNat 1) (argI bs x stk).length = true := ltN_t (by rw [show Int.toNat 1 = 1 from rfl]; omega)
      simp [k90, allT, k1, k2, k4, k5, k6, k7, k8, k9, k10, k11, k12, k13, e0, e14, e15, e18, n1, n2, n3, n4, n5, n6, n7, hl1, hl2, hl3, hl4, hl5, hl6, hl7, hl8, k4i, k4m, k4n, k4j, k72, k5z, k4o, k4k, k6x, k77, k61, k6z, k6v, k4l, k4g, List.length_singleton, z0, z1, s1, s2, s3, s4] <;> omega
    · obtain ⟨k1, k4, k5, k6, k7, k8, k9, k10, k11, k12, k13, k2⟩ := key _ e
      have z0 : leI (0 : Int) 0 = true := rfl
      have z1 : leI (0 : Int) 1 = true := rfl
      have tk := tk6 e
      have s1 : ltI 0 ((argI bs x stk).length : Int) = true := ltI_t (by omega)
      have s2 : ltN (Int.toNat 0) (argI bs x stk).length = true := ltN_t (by simp only [Int.toNat_zero]; omega)
      have s3 : ltI 1 ((argI bs x stk).length : Int) = true := ltI_t (by omega)
      have s4 : ltN (Int.toNat 1) (argI bs x stk).length = true := ltN_t (by rw [show Int.toNat 1 = 1 from rfl]; omega)
      simp [k90, allT, k1, k2, k4, k5, k6, k7, k8, k9, k10, k11, k12, k13, e0, e14, e15, e18, n1, n2, n3, n4, n5, n6, n7, hl1, hl2, hl3, hl4, hl5, hl6, hl7, hl8, k4i, k4m, k4n, k4j, k72, k5z, k4o, k4k, k6x, k77, k61, k6z, k6v, k4l, k4g, List.length_singleton, z0, z1, s1, s2, s3, s4] <;> omega
    · obtain ⟨k1, k4, k5, k6, k7, k8, k9, k10, k11, k12, k13, k2⟩ := key _ e
      have z0 : leI (0 : Int) 0 = true := rfl
      have z1 : leI (0 : Int) 1 = true := rfl
      have r1 : leI 0 x.2 = true := leI_t (by omega)
      have r2 : ltI x.2 (bs.length : Int) = true := ltI_t (by omega)
      have r3 : ltN x.2.toNat bs.length = true := ltN_t (by omega)
      have r4 : ltI x.2 (ss.length : Int) = true := ltI_t (by omega)
      have r5 : ltN x.2.toNat ss.length = true := ltN_t (by omega)
      have r6 := (k150 (hB7 e q) (h.sp x.2.toNat (by omega)) (by rw [← tk7 e]; exact g3)).2.2.2.2.2.1
      simp [k90, allT, k1, k2, k4, k5, k6, k7, k8, k9, k10, k11, k12, k13, e0, e14, e15, e18, n1, n2, n3, n4, n5, n6, n7, hl1, hl2, hl3, hl4, hl5, hl6, hl7, hl8, k4i, k4m, k4n, k4j, k72, k5z, k4o, k4k, k6x, k77, k61, k6z, k6v, k4l, k4g, List.length_singleton, z0, z1, r1, r2, r3, r4, r5, r6] <;> omega
    · obtain ⟨k1, k4, k5, k6, k7, k8, k9, k10, k11, k12, k13, k2⟩ := key _ e
      have z0 : leI (0 : Int) 0 = true := rfl
      have z1 : leI (0 : Int) 1 = true := rfl
      have tk := tk8 e
      have s1 : ltI 0 ((argI bs x stk).length : Int) = true := ltI_t (by omega)
      have s2 : ltN (Int.toNat 0) (argI bs x stk).length = true := ltN_t (by simp only [Int.toNat_zero]; omega)
      have r1 : leI 0 x.2 = true := leI_t (by omega)
      have r2 : ltI x.2 (xs.length : Int) = true := ltI_t (by omega)
      have r3 : ltN x.2.toNat xs.length = true := ltN_t (by omega)
      simp [k90, allT, k1, k2, k4, k5, k6, k7, k8, k9, k10, k11, k12, k13, e0, e14, e15, e18, n1, n2, n3, n4, n5, n6, n7, hl1, hl2, hl3, hl4, hl5, hl6, hl7, hl8, k4i, k4m, k4n, k4j, k72, k5z, k4o, k4k, k6x, k77, k61, k6z, k6v, k4l, k4g, List.length_singleton, z0, z1, s1, s2, r1, r2, r3] <;> omega
    · obtain ⟨k1, k4, k5, k6, k7, k8, k9, k10, k11, k12, k13, k2⟩ := key _ e
      have z0 : leI (0 : Int) 0 = true := rfl
      have z1 : leI (0 : Int) 1 = true := rfl
      have tk := tk9 e
      have s1 : ltI 0 ((argI bs x stk).length : Int) = true := ltI_t (by omega)
      have s2 : ltN (Int.toNat 0) (argI bs x stk).length = true := ltN_t (by simp only [Int.toNat_zero]; omega)
      have r1 : leI 0 x.2 = true := leI_t (by omega)
      have r2 : ltI x.2 (os.length : Int) = true := ltI_t (by omega)
      have r3 : ltN x.2.toNat os.length = true := ltN_t (by omega)
      simp [k90, allT, k1, k2, k4, k5, k6, k7, k8, k9, k10, k11, k12, k13, e0, e14, e15, e18, n1, n2, n3, n4, n5, n6, n7, hl1, hl2, hl3, hl4, hl5, hl6, hl7, hl8, k4i, k4m, k4n, k4j, k72, k5z, k4o, k4k, k6x, k77, k61, k6z, k6v, k4l, k4g, List.length_singleton, z0, z1, s1, s2, r1, r2, r3] <;> omega
    · obtain ⟨k1, k4, k5, k6, k7, k8, k9, k10, k11, k12, k13, k2⟩ := key _ e
      have z0 : leI (0 : Int) 0 = true := rfl
      have z1 : leI (0 : Int) 1 = true := rfl
      have m1 : ∀ z : Int, kjq z os = true := fun z => by
        have q1 : leI (0 : Int) (os.length : Int) = true := leI_t (by omega)
        have q2 : leI (((8 : Nat) : Int) * (os.length : Int)) 281474976710656 = true := leI_t (by omega)
        have q3 : leI (os.length : Int) 9223372036854775807 = true := leI_t (by omega)
        simp only [kjq, q1, q2, q3, n7, allT, Bool.or_true, cond_true]
      have r1 : leI 0 x.2 = true := leI_t (by omega)
      have r2 : ltI x.2 (inp.length : Int) = true := ltI_t (by omega)
      have r3 : ltN x.2.toNat inp.length = true := ltN_t (by omega)
      simp [k90, allT, k1, k2, k4, k5, k6, k7, k8, k9, k10, k11, k12, k13, e0, e14, e15, e18, n1, n2, n3, n4, n5, n6, n7, hl1, hl2, hl3, hl4, hl5, hl6, hl7, hl8, k4i, k4m, k4n, k4j, k72, k5z, k4o, k4k, k6x, k77, k61, k6z, k6v, k4l, k4g, List.length_singleton, z0, z1, m1, r1, r2, r3] <;> omega
    · obtain ⟨k1, k4, k5, k6, k7, k8, k9, k10, k11, k12, k13, k2⟩ := key _ e
      have z0 : leI (0 : Int) 0 = true := rfl
      have z1 : leI (0 : Int) 1 = true := rfl
      have m1 : ∀ z : Int, kjq z os = true := fun z => by
        have q1 : leI (0 : Int) (os.length : Int) = true := leI_t (by omega)
        have q2 : leI (((8 : Nat) : Int) * (os.length : Int)) 281474976710656 = true := leI_t (by omega)
        have q3 : leI (os.length : Int) 9223372036854775807 = true := leI_t (by omega)
        simp only [kjq, q1, q2, q3, n7, allT, Bool.or_true, cond_true]
      have r1 : leI 0 x.2 = true := leI_t (by omega)
      have r2 : ltI x.2 (xs.length : Int) = true := ltI_t (by omega)
      have r3 : ltN x.2.toNat xs.length = true := ltN_t (by omega)
      simp [k90, allT, k1, k2, k4, k5, k6, k7, k8, k9, k10, k11, k12, k13, e0, e14, e15, e18, n1, n2, n3, n4, n5, n6, n7, hl1, hl2, hl3, hl4, hl5, hl6, hl7, hl8, k4i, k4m, k4n, k4j, k72, k5z, k4o, k4k, k6x, k77, k61, k6z, k6v, k4l, k4g, List.length_singleton, z0, z1, m1, r1, r2, r3] <;> omega

/-- The program's step. -/
theorem implStep {i v o : Int} {bs : List TM} {st : List IN} {inp : List Int} {k : Int} {stk xs os : List Int} {ss : List BS3} (hC : codeB i v o bs st = true) (hin : bitsB i inp = true)
    (h : OkM i v o bs st k stk xs os ss) (hlt : k < st.length) {x : IN} (hx : st[k.toNat]? = some x) :
    k57 k st = k + 1 ∧ k58 k bs st inp stk xs ss = stkM bs inp x stk xs ss ∧ k5d k bs st stk xs = vlsM bs x stk xs ∧
    k5a k bs st inp stk xs os = outM bs inp x stk xs os ∧ k5e k bs st stk ss = blkM bs x stk ss ∧ kt k bs st inp stk xs os ss = true := by
  obtain ⟨g1, g2, g3, g4, g5, _⟩ := k14u hC hin h hlt hx
  simp only [codeB, Bool.and_eq_true] at hC
  obtain ⟨hr, hB, hok⟩ := hC
  obtain ⟨ri, rv, ro, rb, rs⟩ := kvs.1 hr
  have h0 := h.lo
  have t2 := tkI_in bs x
  have hxl := (kae.1 h.vl).2
  have hol := (kae.1 h.ou).2
  have hil := (kae.1 hin).2
  have hsl := h.sl
  have hargb := (kae.1 g3).1
  have hal := k15l g3
  have ha0 := k10z hargb 0
  have ha1 := k10z hargb 1
  have e0 : ke k st = x := by simp only [ke, hx, Option.getD_some]
  have w3 : k80 k = k + 1 := wrap_i64 (by omega) (by omega)
  have e14 : kh k bs st stk = stk.length - tkI bs x := by
    simp only [kh, e0]
    have q : k18 x.1 x.2 bs = tkI bs x := rfl
    have q2 : koo stk = (stk.length : Int) := rfl
    rw [q, q2]
    exact wrap_i64 (by omega) (by omega)
  have en : (((stk.length : Int) - tkI bs x)).toNat = stk.length - (tkI bs x).toNat := by omega
  have e1 : k17 k st = (gvI x == 1) := by
    simp only [k17, e0]
    rfl
  have ear : stk.drop (stk.length - (tkI bs x).toNat) = argI bs x stk := rfl
  have ers : stk.take (stk.length - (tkI bs x).toNat) = rstI bs x stk := rfl
  have hz : ∀ (l : List Int) (z : Int), (bif z == 0 then zeros l.length else l) = mskM l z := fun l z => rfl
  have hcs := k11t ri rv ro rb g1
  have hB7 : x.1 = 7 → 0 ≤ x.2 ∧ x.2 < bs.length → blockB (termAt bs x.2.toNat).1 (termAt bs x.2.toNat).2.1 (termAt bs x.2.toNat).2.2 = true := fun _ hq => by
    have hlt7 : x.2.toNat < bs.length := by omega
    have hg7 : termAt bs x.2.toNat = bs[x.2.toNat] := by simp only [termAt, List.getElem?_eq_getElem hlt7]; rfl
    rw [hg7]; exact List.all_eq_true.1 hB _ (List.getElem_mem hlt7)
  obtain ⟨tk4, tk5, tk6, tk8, tk9, tk7⟩ := tk_of (bs := bs) (x := x)
  obtain ⟨gv1, gv0⟩ := gv_of (x := x)
  have h7 : x.1 = 7 → 0 ≤ x.2 ∧ x.2 < bs.length → _ := fun e q => k150 (hB7 e q) (h.sp x.2.toNat (by omega)) (by rw [← tk7 e]; exact g3)
  have hga0 : k4r (argI bs x stk) = atZ (argI bs x stk) 0 := rfl
  have hga1 : k1p x.2 bs = termAt bs x.2.toNat := rfl
  have hga2 : k14 x.2 ss = stAt ss x.2.toNat := rfl
  have hsa0 : k7i (argI bs x stk) = atZ (argI bs x stk) 0 := rfl
  have hat : ∀ (l : List Int) (z : Int), Option.getD l[Int.toNat z]? (0 : Int) = atZ l z := fun _ _ => rfl
  have hat1 : ∀ (l : List Int), Option.getD l[1]? (0 : Int) = atZ l 1 := fun _ => rfl
  have hand := k14m ha0 ha1
  have hor := k15j ha0 ha1
  have hnot := k15n ha0
  refine ⟨?_, ?_, ?_, ?_, ?_, ?_⟩
  · simp only [k57, w3, Bool.cond_self]
  · simp only [k58, km, e0, e1, e14, en, ear, ers, stkM]
    rcases hcs with ⟨e, q⟩ | ⟨e, q⟩ | ⟨e, q⟩ | e | e | e | ⟨e, q⟩ | ⟨e, q⟩ | ⟨e, q⟩ | ⟨e, q⟩ | ⟨e, q⟩
    · simp [k1e, valM, e, gv1 (by omega)]
    · simp [k1e, valM, e, gv1 (by omega), hat]
    · simp [k1e, valM, e, gv1 (by omega), hat]
    · simp only [k1e, valM, e, hga0, hnot]; rfl
    · simp only [k1e, valM, e, hga0, hat, hand]; rfl
    · simp only [k1e, valM, e, hga0, hat, hor]; rfl
    · have := (h7 e q).1
      simp only [k1e, valM, e, hga1, hga2]
      simp [this, valB]
    all_goals simp [gv0 (by omega)]
  · simp only [k5d, e0, e1, e14, en, ear, vlsM]
    rcases hcs with ⟨e, q⟩ | ⟨e, q⟩ | ⟨e, q⟩ | e | e | e | ⟨e, q⟩ | ⟨e, q⟩ | ⟨e, q⟩ | ⟨e, q⟩ | ⟨e, q⟩
    all_goals first
      | simp [gv1 (by omega), e]
      | simp [gv0 (by omega), e, k7w, hsa0]
  · simp only [k5a, e0, e1, e14, en, ear, outM]
    rcases hcs with ⟨e, q⟩ | ⟨e, q⟩ | ⟨e, q⟩ | e | e | e | ⟨e, q⟩ | ⟨e, q⟩ | ⟨e, q⟩ | ⟨e, q⟩ | ⟨e, q⟩
    all_goals first
      | (simp [gv1 (by omega), e]; done)
      | (simp [gv0 (by omega), e, k4q, hsa0, hat]; done)
      | (simp [gv0 (by omega), e, k4q, hsa0, hat]; exact hz _ _)
  · simp only [k5e, e0, e1, e14, en, ear, blkM]
    rcases hcs with ⟨e, q⟩ | ⟨e, q⟩ | ⟨e, q⟩ | e | e | e | ⟨e, q⟩ | ⟨e, q⟩ | ⟨e, q⟩ | ⟨e, q⟩ | ⟨e, q⟩
    all_goals first
      | (have z := h7 e q
         simp only [k2v, e, hga1, hga2, z.2.1, z.2.2.1, z.2.2.2.1, gv1 (by omega)]
         simp [nextB]
         done)
      | simp [gv1 (by omega), e, k2v]
      | simp [gv0 (by omega), e]
  · have n1 : leI 0 k = true := leI_t h0
    have n2 : ltI k (st.length : Int) = true := ltI_t hlt
    have n3 : ltN k.toNat st.length = true := ltN_t (by omega)
    have n4 : k4h x.1 x.2 bs = true := fit_nd rb g1
    have n5 : leI 0 ((stk.length : Int) - tkI bs x) = true := leI_t (by omega)
    have n6 : leI ((stk.length : Int) - tkI bs x) (stk.length : Int) = true := leI_t (by omega)
    have n7 : leN (stk.length - (tkI bs x).toNat) stk.length = true := leN_t (Nat.sub_le _ _)
    have n8 : leN (argI bs x stk).length 1048576 = true := leN_t (by omega)
    have n9 : leN ((rstI bs x stk).length + 1) 9223372036854775807 = true := leN_t (by have := k12s g2; omega)
    have n10 : leN (((rstI bs x stk).length + 1) * 8) 140737488355328 = true := leN_t (by have := k12s g2; omega)
    have z0 : leI (0 : Int) 0 = true := rfl
    have z1 : leI (0 : Int) 1 = true := rfl
    rcases hcs with ⟨e, q⟩ | ⟨e, q⟩ | ⟨e, q⟩ | e | e | e | ⟨e, q⟩ | ⟨e, q⟩ | ⟨e, q⟩ | ⟨e, q⟩ | ⟨e, q⟩
    · have gv := gv1 (by omega)
      have hd : kg x.1 x.2 bs (argI bs x stk) inp xs ss = true := by simp [kg, k1b, k1h, k1i, allT, e, z0, z1] <;> omega
      simp only [kt, km, e0, e1, e14, en, ear, ers, gv, hd, n1, n2, n3, n4, n5, n6, n7, n8, n9, n10, List.length_singleton, allT, beq_self_eq_true, Bool.not_true, Bool.false_or, Bool.true_or, Bool.or_true, cond_true, show ((0 : Int) == 1) = false from rfl, Bool.not_false]
    · have gv := gv1 (by omega)
      have r1 : leI 0 x.2 = true := leI_t (by omega)
      have r2 : ltI x.2 (inp.length : Int) = true := ltI_t (by omega)
      have r3 : ltN x.2.toNat inp.length = true := ltN_t (by omega)
      have hd : kg x.1 x.2 bs (argI bs x stk) inp xs ss = true := by simp [kg, k1b, k1h, k1i, allT, e, z0, z1, r1, r2, r3] <;> omega
      simp only [kt, km, e0, e1, e14, en, ear, ers, gv, hd, n1, n2, n3, n4, n5, n6, n7, n8, n9, n10, List.length_singleton, allT, beq_self_eq_true, Bool.not_true, Bool.false_or, Bool.true_or, Bool.or_true, cond_true, show ((0 : Int) == 1) = false from rfl, Bool.not_false]
    · have gv := gv1 (by omega)
      have r1 : leI 0 x.2 = true := leI_t (by omega)
      have r2 : ltI x.2 (xs.length : Int) = true := ltI_t (by omega)
      have r3 : ltN x.2.toNat xs.length = true := ltN_t (by omega)
      have hd : kg x.1 x.2 bs (argI bs x stk) inp xs ss = true := by simp [kg, k1b, k1h, k1i, allT, e, z0, z1, r1, r2, r3] <;> omega
      simp only [kt, km, e0, e1, e14, en, ear, ers, gv, hd, n1, n2, n3, n4, n5, n6, n7, n8, n9, n10, List.length_singleton, allT, beq_self_eq_true, Bool.not_true, Bool.false_or, Bool.true_or, Bool.or_true, cond_true, show ((0 : Int) == 1) = false from rfl, Bool.not_false]
    · have gv := gv1 (by omega)
      have tk := tk4 e
      have s1 : ltI 0 ((argI bs x stk).length : Int) = true := ltI_t (by omega)
      have s2 : ltN (Int.toNat 0) (argI bs x stk).length = true := ltN_t (by simp only [Int.toNat_zero]; omega)
      have hd : kg x.1 x.2 bs (argI bs x stk) inp xs ss = true := by simp [kg, k1b, k1h, k1i, allT, e, z0, z1, s1, s2] <;> omega
      simp only [kt, km, e0, e1, e14, en, ear, ers, gv, hd, n1, n2, n3, n4, n5, n6, n7, n8, n9, n10, List.length_singleton, allT, beq_self_eq_true, Bool.not_true, Bool.false_or, Bool.true_or, Bool.or_true, cond_true, show ((0 : Int) == 1) = false from rfl, Bool.not_false]
    · have gv := gv1 (by omega)
      have tk := tk5 e
      have s1 : ltI 0 ((argI bs x stk).length : Int) = true := ltI_t (by omega)
      have s2 : ltN (Int.toNat 0) (argI bs x stk).length = true := ltN_t (by simp only [Int.toNat_zero]; omega)
      have s3 : ltI 1 ((argI bs x stk).length : Int) = true := ltI_t (by omega)
      have s4 : ltN (Int.toNat 1) (argI bs x stk).length = true := ltN_t (by rw [show Int.toNat 1 = 1 from rfl]; omega)
      have hd : kg x.1 x.2 bs (argI bs x stk) inp xs ss = true := by simp [kg, k1b, k1h, k1i, allT, e, z0, z1, s1, s2, s3, s4] <;> omega
      simp only [kt, km, e0, e1, e14, en, ear, ers, gv, hd, n1, n2, n3, n4, n5, n6, n7, n8, n9, n10, List.length_singleton, allT, beq_self_eq_true, Bool.not_true, Bool.false_or, Bool.true_or, Bool.or_true, cond_true, show ((0 : Int) == 1) = false from rfl, Bool.not_false]
    · have gv := gv1 (by omega)
      have tk := tk6 e
      have s1 : ltI 0 ((argI bs x stk).length : Int) = true := ltI_t (by omega)
      have s2 : ltN (Int.toNat 0) (argI bs x stk).length = true := ltN_t (by simp only [Int.toNat_zero]; omega)
      have s3 : ltI 1 ((argI bs x stk).length : Int) = true := ltI_t (by omega)
      have s4 : ltN (Int.toNat 1) (argI bs x stk).length = true := ltN_t (by rw [show Int.toNat 1 = 1 from rfl]; omega)
      have hd : kg x.1 x.2 bs (argI bs x stk) inp xs ss = true := by simp [kg, k1b, k1h, k1i, allT, e, z0, z1, s1, s2, s3, s4] <;> omega
      simp only [kt, km, e0, e1, e14, en, ear, ers, gv, hd, n1, n2, n3, n4, n5, n6, n7, n8, n9, n10, List.length_singleton, allT, beq_self_eq_true, Bool.not_true, Bool.false_or, Bool.true_or, Bool.or_true, cond_true, show ((0 : Int) == 1) = false from rfl, Bool.not_false]
    · have gv := gv1 (by omega)
      have r1 : leI 0 x.2 = true := leI_t (by omega)
      have r2 : ltI x.2 (bs.length : Int) = true := ltI_t (by omega)
      have r3 : ltN x.2.toNat bs.length = true := ltN_t (by omega)
      have r4 : ltI x.2 (ss.length : Int) = true := ltI_t (by omega)
      have r5 : ltN x.2.toNat ss.length = true := ltN_t (by omega)
      have r6 := (h7 e q).2.2.2.2.1
      have hd : kg x.1 x.2 bs (argI bs x stk) inp xs ss = true := by simp [kg, k1b, k1h, k1i, allT, e, z0, z1, r1, r2, r3, r4, r5, r6] <;> omega
      simp only [kt, km, e0, e1, e14, en, ear, ers, gv, hd, n1, n2, n3, n4, n5, n6, n7, n8, n9, n10, List.length_singleton, allT, beq_self_eq_true, Bool.not_true, Bool.false_or, Bool.true_or, Bool.or_true, cond_true, show ((0 : Int) == 1) = false from rfl, Bool.not_false]
    · have gv := gv0 (by omega)
      have tk := tk8 e
      have s1 : ltI 0 ((argI bs x stk).length : Int) = true := ltI_t (by omega)
      have s2 : ltN (Int.toNat 0) (argI bs x stk).length = true := ltN_t (by simp only [Int.toNat_zero]; omega)
      have r1 : leI 0 x.2 = true := leI_t (by omega)
      have r2 : ltI x.2 (xs.length : Int) = true := ltI_t (by omega)
      have r3 : ltN x.2.toNat xs.length = true := ltN_t (by omega)
      have hd : k1c x.1 x.2 (argI bs x stk) inp xs os = true := by simp [k1c, allT, e, z0, z1, s1, s2, r1, r2, r3] <;> omega
      simp only [kt, km, e0, e1, e14, en, ear, ers, gv, hd, n1, n2, n3, n4, n5, n6, n7, n8, n9, n10, List.length_singleton, allT, beq_self_eq_true, Bool.not_true, Bool.false_or, Bool.true_or, Bool.or_true, cond_true, show ((0 : Int) == 1) = false from rfl, Bool.not_false]
    · have gv := gv0 (by omega)
      have tk := tk9 e
      have s1 : ltI 0 ((argI bs x stk).length : Int) = true := ltI_t (by omega)
      have s2 : ltN (Int.toNat 0) (argI bs x stk).length = true := ltN_t (by simp only [Int.toNat_zero]; omega)
      have r1 : leI 0 x.2 = true := leI_t (by omega)
      have r2 : ltI x.2 (os.length : Int) = true := ltI_t (by omega)
      have r3 : ltN x.2.toNat os.length = true := ltN_t (by omega)
      have hd : k1c x.1 x.2 (argI bs x stk) inp xs os = true := by simp [k1c, allT, e, z0, z1, s1, s2, r1, r2, r3] <;> omega
      simp only [kt, km, e0, e1, e14, en, ear, ers, gv, hd, n1, n2, n3, n4, n5, n6, n7, n8, n9, n10, List.length_singleton, allT, beq_self_eq_true, Bool.not_true, Bool.false_or, Bool.true_or, Bool.or_true, cond_true, show ((0 : Int) == 1) = false from rfl, Bool.not_false]
    · have gv := gv0 (by omega)
      have r1 : leI 0 x.2 = true := leI_t (by omega)
      have r2 : ltI x.2 (inp.length : Int) = true := ltI_t (by omega)
      have r3 : ltN x.2.toNat inp.length = true := ltN_t (by omega)
      have hd : k1c x.1 x.2 (argI bs x stk) inp xs os = true := by simp [k1c, allT, e, z0, z1, r1, r2, r3] <;> omega
      simp only [kt, km, e0, e1, e14, en, ear, ers, gv, hd, n1, n2, n3, n4, n5, n6, n7, n8, n9, n10, List.length_singleton, allT, beq_self_eq_true, Bool.not_true, Bool.false_or, Bool.true_or, Bool.or_true, cond_true, show ((0 : Int) == 1) = false from rfl, Bool.not_false]
    · have gv := gv0 (by omega)
      have r1 : leI 0 x.2 = true := leI_t (by omega)
      have r2 : ltI x.2 (xs.length : Int) = true := ltI_t (by omega)
      have r3 : ltN x.2.toNat xs.length = true := ltN_t (by omega)
      have hd : k1c x.1 x.2 (argI bs x stk) inp xs os = true := by simp [k1c, allT, e, z0, z1, r1, r2, r3] <;> omega
      simp only [kt, km, e0, e1, e14, en, ear, ers, gv, hd, n1, n2, n3, n4, n5, n6, n7, n8, n9, n10, List.length_singleton, allT, beq_self_eq_true, Bool.not_true, Bool.false_or, Bool.true_or, Bool.or_true, cond_true, show ((0 : Int) == 1) = false from rfl, Bool.not_false]

end Go.SX

namespace Go.SX
open Go.Proofs
set_option maxRecDepth 100000

abbrev k1l := Int × Int × Int × Int × List Int × List Int × List Int × List Int × List (Int × (Int × Int)) × List (Int × (ByteArray × Int)) × List (Int × Int)

def k6c (y0 : Int) (y10 : List (Int × Int)) : Bool :=
  ltI y0 (kbe y10)

def kb2 (y0 : Int) (y4 : List Int) (y5 : List Int) (y6 : List Int) (y7 : List Int) (y8 : List (Int × (Int × Int))) (y9 : List (Int × (ByteArray × Int))) (y10 : List (Int × Int)) : Bool :=
  kt y0 y9 y10 y4 y5 y6 y7 y8

def kat (y0 : Int) (y10 : List (Int × Int)) : Int :=
  k57 y0 y10

def kax (y0 : Int) (y4 : List Int) (y5 : List Int) (y6 : List Int) (y8 : List (Int × (Int × Int))) (y9 : List (Int × (ByteArray × Int))) (y10 : List (Int × Int)) : List Int :=
  k58 y0 y9 y10 y4 y5 y6 y8

def kba (y0 : Int) (y5 : List Int) (y6 : List Int) (y9 : List (Int × (ByteArray × Int))) (y10 : List (Int × Int)) : List Int :=
  k5d y0 y9 y10 y5 y6

def kb7 (y0 : Int) (y4 : List Int) (y5 : List Int) (y6 : List Int) (y7 : List Int) (y9 : List (Int × (ByteArray × Int))) (y10 : List (Int × Int)) : List Int :=
  k5a y0 y9 y10 y4 y5 y6 y7

def kb4 (y0 : Int) (y5 : List Int) (y8 : List (Int × (Int × Int))) (y9 : List (Int × (ByteArray × Int))) (y10 : List (Int × Int)) : List (Int × (Int × Int)) :=
  k5e y0 y9 y10 y5 y8

def khx : k1l → List (Nat × SV)
  | (_, _, _, _, _, _, _, _, _, _, _) => [(0, (.one ⟨false, [(.ptr 0 0)]⟩)), (4, (.one ⟨false, [(.ptr 1 0)]⟩)), (2, (.one ⟨false, [(.ref 2)]⟩))]

def khd : k1l → List (Nat × Entry)
  | (y0, y1, y2, y3, y4, y5, y6, y7, y8, y9, y10) => [(0, (.box 77 [(.val (.int IntKind.i64 y0)), (.ref 3), (.ref 4), (.ref 5), (.ref 6)])), (1, (.box 34 [(.val (.int IntKind.i64 y1)), (.val (.int IntKind.i64 y2)), (.val (.int IntKind.i64 y3)), (.ref 7), (.ref 8)])), (2, (.row false 2 (CTy.int IntKind.i64) y4)), (4, (.row true 2 (CTy.int IntKind.i64) y6)), (5, (.row true 2 (CTy.int IntKind.i64) y7)), (6, (.row true 172 (CTy.pair (CTy.int IntKind.i64) (CTy.pair (CTy.int IntKind.i64) (CTy.int IntKind.i64))) y8)), (7, (.row false 178 (CTy.pair (CTy.int IntKind.i64) (CTy.pair CTy.str (CTy.int IntKind.i64))) y9)), (8, (.row false 150 (CTy.pair (CTy.int IntKind.i64) (CTy.int IntKind.i64)) y10)), (3, (.row true 2 (CTy.int IntKind.i64) y5))]

def khp : Nat → k1l → List (Nat × SV)
  | _, (_, _, _, _, _, _, _, _, _, _, _) => []

def khf : Nat → k1l → List (Nat × Entry)
  | _, (y0, y1, y2, y3, y4, y5, y6, y7, y8, y9, y10) => [(0, (.box 77 [(.val (.int IntKind.i64 y0)), (.ref 3), (.ref 4), (.ref 5), (.ref 6)])), (1, (.box 34 [(.val (.int IntKind.i64 y1)), (.val (.int IntKind.i64 y2)), (.val (.int IntKind.i64 y3)), (.ref 7), (.ref 8)])), (2, (.row false 2 (CTy.int IntKind.i64) y4)), (3, (.row true 2 (CTy.int IntKind.i64) y5)), (4, (.row true 2 (CTy.int IntKind.i64) y6)), (5, (.row true 2 (CTy.int IntKind.i64) y7)), (6, (.row true 172 (CTy.pair (CTy.int IntKind.i64) (CTy.pair (CTy.int IntKind.i64) (CTy.int IntKind.i64))) y8)), (7, (.row false 178 (CTy.pair (CTy.int IntKind.i64) (CTy.pair CTy.str (CTy.int IntKind.i64))) y9)), (8, (.row false 150 (CTy.pair (CTy.int IntKind.i64) (CTy.int IntKind.i64)) y10))]

def k64 : k1l → LT k1l
  | (y0, y1, y2, y3, y4, y5, y6, y7, y8, y9, y10) => .ite (k6c y0 y10) (.need [(kb2 y0 y4 y5 y6 y7 y8 y9 y10)] (.nrm ((kat y0 y10), y1, y2, y3, y4, (kax y0 y4 y5 y6 y8 y9 y10), (kba y0 y5 y6 y9 y10), (kb7 y0 y4 y5 y6 y7 y9 y10), (kb4 y0 y5 y8 y9 y10), y9, y10) [(0, 0), (1, 1), (2, 2), (3, 768), (4, 4), (5, 5), (6, 6), (7, 7), (8, 8)])) (.ext 0 [(0, 0), (1, 1), (2, 2), (3, 3), (4, 4), (5, 5), (6, 6), (7, 7), (8, 8)])

def k5y (s : St) : Option k1l :=
  (match s.look 0 with
  | some ⟨none, (.one ⟨false, [(.ptr 0 0)]⟩)⟩ =>
  (match s.look 4 with
  | some ⟨none, (.one ⟨false, [(.ptr 576 0)]⟩)⟩ =>
  (match s.look 2 with
  | some ⟨none, (.one ⟨false, [(.ref 3)]⟩)⟩ =>
  (match s.ent 0 with
  | some (.box 77 [(.val (.int IntKind.i64 y0)), (.ref 4), (.ref 5), (.ref 6), (.ref 7)]) =>
  (match s.ent 576 with
  | some (.box 34 [(.val (.int IntKind.i64 y1)), (.val (.int IntKind.i64 y2)), (.val (.int IntKind.i64 y3)), (.ref 1), (.ref 2)]) =>
  (match s.ent 3 with
  | some (.row false 2 (CTy.int IntKind.i64) y4) =>
  (match s.ent 5 with
  | some (.row true 2 (CTy.int IntKind.i64) y6) =>
  (match s.ent 6 with
  | some (.row true 2 (CTy.int IntKind.i64) y7) =>
  (match s.ent 7 with
  | some (.row true 172 (CTy.pair (CTy.int IntKind.i64) (CTy.pair (CTy.int IntKind.i64) (CTy.int IntKind.i64))) y8) =>
  (match s.ent 1 with
  | some (.row false 178 (CTy.pair (CTy.int IntKind.i64) (CTy.pair CTy.str (CTy.int IntKind.i64))) y9) =>
  (match s.ent 2 with
  | some (.row false 150 (CTy.pair (CTy.int IntKind.i64) (CTy.int IntKind.i64)) y10) =>
  (match s.ent 4 with
  | some (.row true 2 (CTy.int IntKind.i64) y5) =>
  some (y0, y1, y2, y3, y4, y5, y6, y7, y8, y9, y10)
  | _ => none)
  | _ => none)
  | _ => none)
  | _ => none)
  | _ => none)
  | _ => none)
  | _ => none)
  | _ => none)
  | _ => none)
  | _ => none)
  | _ => none)
  | _ => none)

def k16 : Lp k1l where
  h := ⟨[6, 7, 8, 9, 10, 11, 12, 13, 14, 15, 16, 17], [0, 1, 2, 4, 5, 6, 7, 8], [3], []⟩
  JL := khx
  JE := khd
  XL := khp
  XE := khf
  q := fun j => match j with | _ => .exit 0
  tags := [0]
  lt := k64
  fuel := fun (y0, y1, y2, y3, y4, y5, y6, y7, y8, y9, y10) => y0.natAbs + y1.natAbs + y2.natAbs + y3.natAbs + y4.length + y5.length + y6.length + y7.length + y8.length + y9.length + y10.length
  fix := fun (_, y1, y2, y3, y4, _, _, _, _, y9, y10) (y0, _, _, _, _, y5, y6, y7, y8, _, _) => (y0, y1, y2, y3, y4, y5, y6, y7, y8, y9, y10)
  σ := [(0, 0), (1, 576), (2, 3), (4, 5), (5, 6), (6, 7), (7, 1), (8, 2), (3, 4)]
  rd := k5y

theorem kgu : LoopOk Tryz.prog (fun k => Nat.blt k Tryz.f128.ntmps) k16.F (loopAt Tryz.f128 0) := by
  refine Lp.ok (tbl := [kbf, PF.lend kbf, kd5]) (lf := []) hmix k16 (by kernel_rfl) (LOk.nil _) (fun _ => rfl) (fun _ _ => rfl) ?_ ?_ ?_ ?_ (fun _ => rfl) ?_
  · intro x; obtain ⟨y0, y1, y2, y3, y4, y5, y6, y7, y8, y9, y10⟩ := x; kernel_rfl
  · intro x; obtain ⟨y0, y1, y2, y3, y4, y5, y6, y7, y8, y9, y10⟩ := x; kernel_rfl
  · intro s x h
    have h : k5y s = some x := h
    unfold k5y at h
    repeat' split at h
    all_goals cases h
    exact ⟨absS_cons (by assumption) rfl (absS_cons (by assumption) rfl (absS_cons (by assumption) rfl (rfl))), absE_cons rfl (by assumption) rfl (absE_cons rfl (by assumption) rfl (absE_cons rfl (by assumption) rfl (absE_cons rfl (by assumption) rfl (absE_cons rfl (by assumption) rfl (absE_cons rfl (by assumption) rfl (absE_cons rfl (by assumption) rfl (absE_cons rfl (by assumption) rfl (absE_cons rfl (by assumption) rfl (rfl)))))))))⟩
  · intro x; obtain ⟨y0, y1, y2, y3, y4, y5, y6, y7, y8, y9, y10⟩ := x; kernel_rfl
  · intro x z; obtain ⟨y0, y1, y2, y3, y4, y5, y6, y7, y8, y9, y10⟩ := x; exact (And.intro rfl trivial)

def k3z (x0 : Int) (x1 : Int) (x2 : Int) (x3 : Int) (x4 : List (Int × ByteArray × Int)) (x5 : List (Int × Int)) (x6 : List Int) (x7 : List Int) (x8 : List Int) (x9 : List Int) (x10 : List (Int × Int × Int)) : Int × Int × Int × Int × List Int × List Int × List Int × List Int × List (Int × Int × Int) × List (Int × ByteArray × Int) × List (Int × Int) :=
  (x3, x0, x1, x2, x6, x7, x8, x9, x10, x4, x5)

def k6u (x0 : Int) (x1 : Int) (x2 : Int) (x3 : Int) (x4 : List (Int × ByteArray × Int)) (x5 : List (Int × Int)) (x6 : List Int) (x7 : List Int) (x8 : List Int) (x9 : List Int) (x10 : List (Int × Int × Int)) : List Int × List Int × List Int × List (Int × Int × Int) × List (Int × ByteArray × Int) × List (Int × Int) :=
  Prod.snd
  (Prod.snd
    (Prod.snd
      (Prod.snd
        (Prod.snd
          (Prod.snd
            (Lp.res k16
              (k3z x0 x1 x2 x3 x4 x5 x6 x7 x8 x9 x10)))))))

def k76 (x0 : Int) (x1 : Int) (x2 : Int) (x3 : Int) (x4 : List (Int × ByteArray × Int)) (x5 : List (Int × Int)) (x6 : List Int) (x7 : List Int) (x8 : List Int) (x9 : List Int) (x10 : List (Int × Int × Int)) : List Int × List Int × List (Int × Int × Int) × List (Int × ByteArray × Int) × List (Int × Int) :=
  Prod.snd (k6u x0 x1 x2 x3 x4 x5 x6 x7 x8 x9 x10)

def k74 (x0 : Int) (x1 : Int) (x2 : Int) (x3 : Int) (x4 : List (Int × ByteArray × Int)) (x5 : List (Int × Int)) (x6 : List Int) (x7 : List Int) (x8 : List Int) (x9 : List Int) (x10 : List (Int × Int × Int)) : List Int × List (Int × Int × Int) × List (Int × ByteArray × Int) × List (Int × Int) :=
  Prod.snd (k76 x0 x1 x2 x3 x4 x5 x6 x7 x8 x9 x10)

def k7k (x0 : Int) (x1 : Int) (x2 : Int) (x3 : Int) (x4 : List (Int × ByteArray × Int)) (x5 : List (Int × Int)) (x6 : List Int) (x7 : List Int) (x8 : List Int) (x9 : List Int) (x10 : List (Int × Int × Int)) : Int :=
  Prod.fst
  (Prod.snd
    (Lp.res k16 (k3z x0 x1 x2 x3 x4 x5 x6 x7 x8 x9 x10)))

def k4e (x0 : Int) (x1 : Int) (x2 : Int) (x3 : Int) (x4 : List (Int × ByteArray × Int)) (x5 : List (Int × Int)) (x6 : List Int) (x7 : List Int) (x8 : List Int) (x9 : List Int) (x10 : List (Int × Int × Int)) : List Int :=
  Prod.fst (k76 x0 x1 x2 x3 x4 x5 x6 x7 x8 x9 x10)

def k4f (x0 : Int) (x1 : Int) (x2 : Int) (x3 : Int) (x4 : List (Int × ByteArray × Int)) (x5 : List (Int × Int)) (x6 : List Int) (x7 : List Int) (x8 : List Int) (x9 : List Int) (x10 : List (Int × Int × Int)) : List Int :=
  Prod.fst (k74 x0 x1 x2 x3 x4 x5 x6 x7 x8 x9 x10)

def k4d (x0 : Int) (x1 : Int) (x2 : Int) (x3 : Int) (x4 : List (Int × ByteArray × Int)) (x5 : List (Int × Int)) (x6 : List Int) (x7 : List Int) (x8 : List Int) (x9 : List Int) (x10 : List (Int × Int × Int)) : List (Int × (Int × Int)) :=
  Prod.fst (Prod.snd (k74 x0 x1 x2 x3 x4 x5 x6 x7 x8 x9 x10))

def k7j (x0 : Int) (x1 : Int) (x2 : Int) (x3 : Int) (x4 : List (Int × ByteArray × Int)) (x5 : List (Int × Int)) (x6 : List Int) (x7 : List Int) (x8 : List Int) (x9 : List Int) (x10 : List (Int × Int × Int)) : List Int :=
  Prod.fst (k6u x0 x1 x2 x3 x4 x5 x6 x7 x8 x9 x10)

def k4c (x0 : Int) (x1 : Int) (x2 : Int) (x3 : Int) (x4 : List (Int × ByteArray × Int)) (x5 : List (Int × Int)) (x6 : List Int) (x7 : List Int) (x8 : List Int) (x9 : List Int) (x10 : List (Int × Int × Int)) : Bool :=
  allT [Lp.fin k16 (k3z x0 x1 x2 x3 x4 x5 x6 x7 x8 x9 x10)]

def kc9 : List SV → List Entry → Option Out
  | [.one ⟨false, [.ptr 0 0]⟩, .one ⟨true, [.val (.int .i64 x0), .val (.int .i64 x1), .val (.int .i64 x2), .ref 1, .ref 2]⟩, .one ⟨false, [.ref 3]⟩], [.box 77 [.val (.int .i64 x3), .ref 4, .ref 5, .ref 6, .ref 7], .row false 178 (.pair (.int .i64) (.pair .str (.int .i64))) x4, .row false 150 (.pair (.int .i64) (.int .i64)) x5, .row false 2 (.int .i64) x6, .row true 2 (.int .i64) x7, .row true 2 (.int .i64) x8, .row true 2 (.int .i64) x9, .row true 172 (.pair (.int .i64) (.pair (.int .i64) (.int .i64))) x10] => some ⟨(.tup []), [(.box 77 [(.val (.int IntKind.i64 (k7k x0 x1 x2 x3 x4 x5 x6 x7 x8 x9 x10))), (.ref 8), (.ref 5), (.ref 6), (.ref 7)]), (.row false 178 (CTy.pair (CTy.int IntKind.i64) (CTy.pair CTy.str (CTy.int IntKind.i64))) x4), (.row false 150 (CTy.pair (CTy.int IntKind.i64) (CTy.int IntKind.i64)) x5), (.row false 2 (CTy.int IntKind.i64) x6), .gone, (.row true 2 (CTy.int IntKind.i64) (k4e x0 x1 x2 x3 x4 x5 x6 x7 x8 x9 x10)), (.row true 2 (CTy.int IntKind.i64) (k4f x0 x1 x2 x3 x4 x5 x6 x7 x8 x9 x10)), (.row true 172 (CTy.pair (CTy.int IntKind.i64) (CTy.pair (CTy.int IntKind.i64) (CTy.int IntKind.i64))) (k4d x0 x1 x2 x3 x4 x5 x6 x7 x8 x9 x10))], [(.row true 2 (CTy.int IntKind.i64) (k7j x0 x1 x2 x3 x4 x5 x6 x7 x8 x9 x10))], [(k4c x0 x1 x2 x3 x4 x5 x6 x7 x8 x9 x10)]⟩
  | _, _ => none

def kjc : PF Tryz.prog := PF.ofG Tryz.prog [kbf, PF.lend kbf, kd5] [k16.F] hmix 128 Tryz.f128 Tryz.func128 (LOk.fnT (l := [loopAt Tryz.f128 0]) (by kernel_rfl) (.cons kgu (.nil _))) kc9 (by
  intro vs es r h; unfold kc9 at h; split at h
  · cases h; kernel_rfl
  · cases h)

def k9v (x0 : List Int) (x1 : List (Int × Int × Int)) : Bool :=
  allT [leN (List.length x0) (1048576 : Nat), leN (List.length x1) (1048576 : Nat)]

def ken : List SV → List Entry → Option Out
  | [.one ⟨true, [.ref 0, .ref 1]⟩], [.row false 2 (.int .i64) x0, .row false 172 (.pair (.int .i64) (.pair (.int .i64) (.int .i64))) x1] => some ⟨(.one ⟨true, [(.ref 2), (.ref 3)]⟩), [(.row false 2 (CTy.int IntKind.i64) x0), (.row false 172 (CTy.pair (CTy.int IntKind.i64) (CTy.pair (CTy.int IntKind.i64) (CTy.int IntKind.i64))) x1)], [(.row true 2 (CTy.int IntKind.i64) x0), (.row true 172 (CTy.pair (CTy.int IntKind.i64) (CTy.pair (CTy.int IntKind.i64) (CTy.int IntKind.i64))) x1)], [(k9v x0 x1)]⟩
  | _, _ => none

def k9x : PF Tryz.prog := PF.ofG Tryz.prog [k8h, PF.lend k8h, PF.fz k8h, kex, PF.lend kex, PF.fz kex] [] hmix 176 Tryz.f176 Tryz.func176 (fun c _ => LOk.nil c) ken (by
  intro vs es r h; unfold ken at h; split at h
  · cases h; kernel_rfl
  · cases h)

def koz  : List Int :=
  []

def kpe (x2 : Int) : List Int :=
  List.replicate (Int.toNat x2) (0 : Int)

def kyg (x2 : Int) (x5 : List Int) (x6 : List (Int × Int × Int)) : Bool :=
  allT
  [k9v x5 x6, leI (0 : Int) x2, leI x2 x2, leI ((↑(8 : Nat) : Int) * x2) (281474976710656 : Int),
    leI x2 (9223372036854775807 : Int)]

def k12b : List SV → List Entry → Option Out
  | [.one ⟨true, [.val (.int .i64 _x0), .val (.int .i64 _x1), .val (.int .i64 x2), .ref 0, .ref 1]⟩, .one ⟨true, [.ref 2, .ref 3]⟩], [.row false 178 (.pair (.int .i64) (.pair (.str) (.int .i64))) x3, .row false 150 (.pair (.int .i64) (.int .i64)) x4, .row false 2 (.int .i64) x5, .row false 172 (.pair (.int .i64) (.pair (.int .i64) (.int .i64))) x6] => some ⟨(.one ⟨true, [(.val (.int IntKind.i64 (0 : Int))), (.ref 4), (.ref 5), (.ref 6), (.ref 7)]⟩), [(.row false 178 (CTy.pair (CTy.int IntKind.i64) (CTy.pair CTy.str (CTy.int IntKind.i64))) x3), (.row false 150 (CTy.pair (CTy.int IntKind.i64) (CTy.int IntKind.i64)) x4), (.row false 2 (CTy.int IntKind.i64) x5), (.row false 172 (CTy.pair (CTy.int IntKind.i64) (CTy.pair (CTy.int IntKind.i64) (CTy.int IntKind.i64))) x6)], [(.row true 2 (CTy.int IntKind.i64) (koz)), (.row true 2 (CTy.int IntKind.i64) x5), (.row true 2 (CTy.int IntKind.i64) (kpe x2)), (.row true 172 (CTy.pair (CTy.int IntKind.i64) (CTy.pair (CTy.int IntKind.i64) (CTy.int IntKind.i64))) x6)], [(kyg x2 x5 x6)]⟩
  | _, _ => none

def kxy : PF Tryz.prog := PF.ofG Tryz.prog [k9x, PF.lend k9x, PF.fz k9x] [] hmix 146 Tryz.f146 Tryz.func146 (fun c _ => LOk.nil c) k12b (by
  intro vs es r h; unfold k12b at h; split at h
  · cases h; kernel_rfl
  · cases h)

def ksu (x0 : Int) (x1 : Int) (x2 : Int) (x3 : List (Int × ByteArray × Int)) (x4 : List (Int × Int)) (x5 : List Int) (x6 : List (Int × Int × Int)) (x7 : List Int) : List Int :=
  k4f x0 x1 x2 (0 : Int) x3 x4 x7 koz x5 (kpe x2) x6

def kta (x0 : Int) (x1 : Int) (x2 : Int) (x3 : List (Int × ByteArray × Int)) (x4 : List (Int × Int)) (x5 : List Int) (x6 : List (Int × Int × Int)) (x7 : List Int) : List Int :=
  k4e x0 x1 x2 (0 : Int) x3 x4 x7 koz x5 (kpe x2) x6

def ksw (x0 : Int) (x1 : Int) (x2 : Int) (x3 : List (Int × ByteArray × Int)) (x4 : List (Int × Int)) (x5 : List Int) (x6 : List (Int × Int × Int)) (x7 : List Int) : List (Int × (Int × Int)) :=
  k4d x0 x1 x2 (0 : Int) x3 x4 x7 koz x5 (kpe x2) x6

def ksr (x0 : Int) (x1 : Int) (x2 : Int) (x3 : List (Int × ByteArray × Int)) (x4 : List (Int × Int)) (x5 : List Int) (x6 : List (Int × Int × Int)) (x7 : List Int) : Bool :=
  allT [kyg x2 x5 x6, k4c x0 x1 x2 (0 : Int) x3 x4 x7 koz x5 (kpe x2) x6]

def kxd : List SV → List Entry → Option Out
  | [.one ⟨true, [.val (.int .i64 x0), .val (.int .i64 x1), .val (.int .i64 x2), .ref 0, .ref 1]⟩, .one ⟨true, [.ref 2, .ref 3]⟩, .one ⟨false, [.ref 4]⟩], [.row false 178 (.pair (.int .i64) (.pair (.str) (.int .i64))) x3, .row false 150 (.pair (.int .i64) (.int .i64)) x4, .row false 2 (.int .i64) x5, .row false 172 (.pair (.int .i64) (.pair (.int .i64) (.int .i64))) x6, .row false 2 (.int .i64) x7] => some ⟨(.tup [⟨false, [(.ref 5)]⟩, ⟨true, [(.ref 6), (.ref 7)]⟩]), [(.row false 178 (CTy.pair (CTy.int IntKind.i64) (CTy.pair CTy.str (CTy.int IntKind.i64))) x3), (.row false 150 (CTy.pair (CTy.int IntKind.i64) (CTy.int IntKind.i64)) x4), (.row false 2 (CTy.int IntKind.i64) x5), (.row false 172 (CTy.pair (CTy.int IntKind.i64) (CTy.pair (CTy.int IntKind.i64) (CTy.int IntKind.i64))) x6), (.row false 2 (CTy.int IntKind.i64) x7)], [(.row true 2 (CTy.int IntKind.i64) (ksu x0 x1 x2 x3 x4 x5 x6 x7)), (.row true 2 (CTy.int IntKind.i64) (kta x0 x1 x2 x3 x4 x5 x6 x7)), (.row true 172 (CTy.pair (CTy.int IntKind.i64) (CTy.pair (CTy.int IntKind.i64) (CTy.int IntKind.i64))) (ksw x0 x1 x2 x3 x4 x5 x6 x7))], [(ksr x0 x1 x2 x3 x4 x5 x6 x7)]⟩
  | _, _ => none

def k12g : PF Tryz.prog := PF.ofG Tryz.prog [kjc, kxy, PF.lend kxy, PF.fz kxy] [] hmix 95 Tryz.f95 Tryz.func95 (fun c _ => LOk.nil c) kxd (by
  intro vs es r h; unfold kxd at h; split at h
  · cases h; kernel_rfl
  · cases h)

end Go.SX

namespace Go.SX
open Go.Proofs
set_option maxRecDepth 100000

abbrev MS := Int × List Int × List Int × List Int × List BS3
def insAt (st : List IN) (k : Int) : IN := Option.getD st[k.toNat]? ((0 : Int), (0 : Int))
def stpM (bs : List TM) (st : List IN) (inp : List Int) : MS → MS
  | (k, stk, xs, os, ss) => (k + 1, stkM bs inp (insAt st k) stk xs ss, vlsM bs (insAt st k) stk xs, outM bs inp (insAt st k) stk xs os, blkM bs (insAt st k) stk ss)
def finM (bs : List TM) (st : List IN) (inp : List Int) : Nat → MS → MS
  | 0, m => m
  | n + 1, m => finM bs st inp n (stpM bs st inp m)

def OkS (i v o : Int) (bs : List TM) (st : List IN) (m : MS) : Prop := OkM i v o bs st m.1 m.2.1 m.2.2.1 m.2.2.2.1 m.2.2.2.2

theorem stp_ok {i v o : Int} {bs : List TM} {st : List IN} {inp : List Int} {m : MS} (hC : codeB i v o bs st = true) (hin : bitsB i inp = true) (h : OkS i v o bs st m) (hlt : m.1 < st.length) :
    OkS i v o bs st (stpM bs st inp m) ∧ st[m.1.toNat]? = some (insAt st m.1) := by
  obtain ⟨k, stk, xs, os, ss⟩ := m
  have h0 := h.lo
  simp only at h0 hlt
  have hk : k.toNat < st.length := by omega
  have hx : st[k.toNat]? = some (insAt st k) := by simp only [insAt, List.getElem?_eq_getElem hk]; rfl
  exact ⟨(k14u hC hin h hlt hx).2.2.2.2.2, hx⟩

/-- A loop that steps a machine to its end. -/
theorem k15g {X : Type} (p : Lp X) (enc : MS → X) {i v o : Int} {bs : List TM} {st : List IN} {inp : List Int} (hC : codeB i v o bs st = true) (hin : bitsB i inp = true)
    (h1 : ∀ m : MS, OkS i v o bs st m → m.1 < st.length → (p.lt (enc m)).out = some (.inr (enc (stpM bs st inp m)))) (h2 : ∀ m : MS, m.1 = st.length → (p.lt (enc m)).out = some (.inl 0))
    (hf : ∀ m, st.length ≤ p.fuel (enc m)) (m : MS) (hm : OkS i v o bs st m) :
    p.fin (enc m) = true ∧ p.res (enc m) = (0, enc (finM bs st inp (st.length - m.1.toNat) m)) ∧ OkS i v o bs st (finM bs st inp (st.length - m.1.toNat) m) := by
  have key : ∀ (n : Nat) (m : MS), OkS i v o bs st m → st.length - m.1.toNat = n → runL p.lt (n + 1) (enc m) = some (0, enc (finM bs st inp n m)) ∧ OkS i v o bs st (finM bs st inp n m) := by
    intro n
    induction n with
    | zero =>
      intro m hm hn
      have := hm.lo
      have := hm.hi
      exact ⟨runL_end _ (h2 m (by omega)), hm⟩
    | succ n ih =>
      intro m hm hn
      have h0 := hm.lo
      have hlt : m.1 < st.length := by omega
      have hs := (stp_ok hC hin hm hlt).1
      have he : (stpM bs st inp m).1 = m.1 + 1 := rfl
      obtain ⟨r1, r2⟩ := ih _ hs (by rw [he]; omega)
      exact ⟨by rw [runL_next _ (h1 m hm hlt)]; exact r1, r2⟩
  obtain ⟨r1, r2⟩ := key _ m hm rfl
  obtain ⟨q1, q2⟩ := p.run r1 (le_big (by have := hf m; omega))
  exact ⟨q1, q2, r2⟩

/-- The height at a place. -/
def hAt (i v o : Int) (bs : List TM) (st : List IN) (k : Int) : Int := bif ltI 0 k then atZ (hgtL i v o bs st) (k - 1) else 0
/-- A machine that is possible for a code. -/
def mchB (i v o : Int) (bs : List TM) (st : List IN) (k : Int) (stk xs os : List Int) (ss : List BS3) : Bool :=
  inR k 0 st.length && (bitsB (hAt i v o bs st k) stk && (bitsB o os && suitB v bs xs ss))

theorem k151 {v : Int} {bs : List TM} {xs : List Int} {ss : List BS3} : suitB v bs xs ss = true ↔ ss.length = bs.length ∧ bitsB v xs = true ∧ ∀ k, k < bs.length → possAt bs ss k = true := by
  simp only [suitB, Bool.and_eq_true, beq_iff_eq, List.all_eq_true, List.mem_range]
  constructor
  · rintro ⟨h1, h2, h3⟩; exact ⟨by omega, h2, h3⟩
  · rintro ⟨h1, h2, h3⟩; exact ⟨by omega, h2, h3⟩

theorem mch_ok {i v o : Int} {bs : List TM} {st : List IN} {k : Int} {stk xs os : List Int} {ss : List BS3} (hC : codeB i v o bs st = true) (h : mchB i v o bs st k stk xs os ss = true) : OkM i v o bs st k stk xs os ss := by
  simp only [mchB, Bool.and_eq_true, ks3] at h
  obtain ⟨⟨k0, k1⟩, h2, h3, h4⟩ := h
  obtain ⟨s1, s2, s3⟩ := k151.1 h4
  simp only [codeB, Bool.and_eq_true] at hC
  obtain ⟨b1, b2⟩ := kae.1 h2
  refine ⟨k0, k1, ?_, b1, s2, h3, s1, s3⟩
  obtain ⟨n, L, g1, g2, g3, g4⟩ := k15f hC.2.2 k.toNat (by omega)
  refine ⟨L, ?_⟩
  rw [g1, b2]
  by_cases hk : 0 < k
  · have := g4 (by omega)
    have ht : ltI 0 k = true := ltI_t hk
    simp only [hAt, ht, cond_true]
    rw [show ((k.toNat : Int) - 1) = k - 1 by omega] at this
    rw [this]
  · have ht : ltI 0 k = false := ltI_f (by omega)
    simp only [hAt, ht, cond_false]
    rw [g3 (by omega)]

/-- The lengths of a possible machine. -/
theorem ok_len {i v o : Int} {bs : List TM} {st : List IN} {m : MS} (hC : codeB i v o bs st = true) (h : OkS i v o bs st m) : m.2.1.length ≤ 40 ∧ m.2.2.1.length ≤ 20 ∧ m.2.2.2.1.length ≤ 20 ∧ m.2.2.2.2.length ≤ 2000 := by
  obtain ⟨k, stk, xs, os, ss⟩ := m
  simp only [codeB, Bool.and_eq_true] at hC
  obtain ⟨ri, rv, ro, rb, rs⟩ := kvs.1 hC.1
  obtain ⟨L, hL⟩ := h.hg
  have h2 := k145 _ _ _ _ _ (by omega) hL
  have hxl := (kae.1 h.vl).2
  have hol := (kae.1 h.ou).2
  have hsl := h.sl
  simp only at h2 hxl hol hsl ⊢
  omega

def fnM (bs : List TM) (st : List IN) (inp : List Int) (k : Int) (stk xs os : List Int) (ss : List BS3) : MS := finM bs st inp (st.length - k.toNat) (k, stk, xs, os, ss)
def runNd (i v o : Int) (bs : List TM) (st : List IN) (inp : List Int) (k : Int) (stk xs os : List Int) (ss : List BS3) : Bool := codeB i v o bs st && (bitsB i inp && mchB i v o bs st k stk xs os ss)

theorem implFin (i v o : Int) (bs : List TM) (st : List IN) (inp : List Int) (k : Int) (stk xs os : List Int) (ss : List BS3) (h : runNd i v o bs st inp k stk xs os ss = true) :
    k7k i v o k bs st inp stk xs os ss = (fnM bs st inp k stk xs os ss).1 ∧ k4e i v o k bs st inp stk xs os ss = (fnM bs st inp k stk xs os ss).2.2.1 ∧
    k4f i v o k bs st inp stk xs os ss = (fnM bs st inp k stk xs os ss).2.2.2.1 ∧ k4d i v o k bs st inp stk xs os ss = (fnM bs st inp k stk xs os ss).2.2.2.2 ∧
    k7j i v o k bs st inp stk xs os ss = (fnM bs st inp k stk xs os ss).2.1 ∧ k4c i v o k bs st inp stk xs os ss = true := by
  simp only [runNd, Bool.and_eq_true] at h
  obtain ⟨hC, hin, hm⟩ := h
  have hm := mch_ok hC hm
  obtain ⟨f1, f2, _⟩ := k15g k16 (fun m => (m.1, i, v, o, inp, m.2.1, m.2.2.1, m.2.2.2.1, m.2.2.2.2, bs, st)) hC hin
    (fun m hm hlt => by
      obtain ⟨k, stk, xs, os, ss⟩ := m
      obtain ⟨_, hx⟩ := stp_ok hC hin hm hlt
      obtain ⟨e0, e4, e1, e2, e3, e5⟩ := implStep hC hin hm hlt hx
      simp only at hlt e0 e1 e2 e3 e4 e5
      have t1 : ltI k (st.length : Int) = true := ltI_t hlt
      simp only [k16, k64, LT.out, k6c, kb2, kat, kax, kba, kb7, kb4, kbe, t1, e0, e1, e2, e3, e4, e5, stpM, allT]
      rfl)
    (fun m hk => by
      obtain ⟨k, stk, xs, os, ss⟩ := m
      simp only at hk
      have t1 : ltI k (st.length : Int) = false := ltI_f (by omega)
      simp only [k16, k64, LT.out, k6c, kbe, t1, cond_false])
    (fun m => by simp only [k16]; omega) (k, stk, xs, os, ss) hm
  simp only at f1 f2
  simp only [k7k, k4e, k4f, k4d, k7j, k4c, k3z, k6u, k76, k74, f1, f2, allT, fnM, and_self, cond_true]

theorem specFin (i v o : Int) (bs : List TM) (st : List IN) (inp : List Int) (k : Int) (stk xs os : List Int) (ss : List BS3) (h : runNd i v o bs st inp k stk xs os ss = true) :
    krm i v o k bs st stk xs os ss inp = (fnM bs st inp k stk xs os ss).1 ∧ krp i v o k bs st stk xs os ss inp = (fnM bs st inp k stk xs os ss).2.1 ∧
    koc i v o k bs st stk xs os ss inp = (fnM bs st inp k stk xs os ss).2.2.1 ∧ kol i v o k bs st stk xs os ss inp = (fnM bs st inp k stk xs os ss).2.2.2.1 ∧
    ko0 i v o k bs st stk xs os ss inp = (fnM bs st inp k stk xs os ss).2.2.2.2 ∧ ko9 i v o k bs st stk xs os ss inp = true := by
  simp only [runNd, Bool.and_eq_true] at h
  obtain ⟨hC, hin, hm⟩ := h
  have hm := mch_ok hC hm
  obtain ⟨l1, l2, l3, l4⟩ := ok_len (m := (k, stk, xs, os, ss)) hC hm
  simp only at l1 l2 l3 l4
  obtain ⟨f1, f2, _⟩ := k15g k68 (fun m => (m.1, i, v, o, inp, m.2.1, m.2.2.1, m.2.2.2.1, m.2.2.2.2, bs, st)) hC hin
    (fun m hm hlt => by
      obtain ⟨k, stk, xs, os, ss⟩ := m
      obtain ⟨_, hx⟩ := stp_ok hC hin hm hlt
      obtain ⟨e0, e1, e2, e3, e4, e5⟩ := specStep hC hin hm hlt hx
      simp only at hlt e0 e1 e2 e3 e4 e5
      have t1 : ltI k (st.length : Int) = true := ltI_t hlt
      simp only [k68, knr, LT.out, kob, ksf, ks2, ksd, ks6, ks1, kse, t1, e0, e1, e2, e3, e4, e5, stpM, allT]
      rfl)
    (fun m hk => by
      obtain ⟨k, stk, xs, os, ss⟩ := m
      simp only at hk
      have t1 : ltI k (st.length : Int) = false := ltI_f (by omega)
      simp only [k68, knr, LT.out, kob, t1, cond_false])
    (fun m => by simp only [k68]; omega) (k, stk, xs, os, ss) hm
  simp only at f1 f2
  have t1 : leN stk.length 1048576 = true := leN_t (by omega)
  have t2 : leN xs.length 1048576 = true := leN_t (by omega)
  have t3 : leN os.length 1048576 = true := leN_t (by omega)
  have t4 : leN (0 + ss.length) 9223372036854775807 = true := leN_t (by omega)
  have t5 : leN ((0 + ss.length) * 24) 140737488355328 = true := leN_t (by omega)
  simp only [krm, krp, koc, kol, ko0, ko9, knh, kq8, kqe, kqg, f1, f2, t1, t2, t3, t4, t5, allT, fnM, and_self, cond_true]

/-- A run from the start. -/
def rnM (o : Int) (bs : List TM) (st : List IN) (inp : List Int) (xs : List Int) (ss : List BS3) : MS := fnM bs st inp 0 [] xs (List.replicate o.toNat 0) ss
def exNd (i v o : Int) (bs : List TM) (st : List IN) (inp : List Int) (xs : List Int) (ss : List BS3) : Bool := codeB i v o bs st && (bitsB i inp && suitB v bs xs ss)

theorem ex_run {i v o : Int} {bs : List TM} {st : List IN} {inp : List Int} {xs : List Int} {ss : List BS3} (h : exNd i v o bs st inp xs ss = true) :
    runNd i v o bs st inp 0 [] xs (List.replicate o.toNat 0) ss = true ∧ (0 ≤ o ∧ o ≤ 20) ∧ xs.length ≤ 20 ∧ ss.length ≤ 2000 := by
  simp only [exNd, Bool.and_eq_true] at h
  obtain ⟨hC, hin, hs⟩ := h
  obtain ⟨s1, s2, s3⟩ := k151.1 hs
  have hC2 := hC
  simp only [codeB, Bool.and_eq_true] at hC2
  obtain ⟨ri, rv, ro, rb, rs⟩ := kvs.1 hC2.1
  have hxl := (kae.1 s2).2
  refine ⟨?_, ro, by omega, by omega⟩
  simp only [runNd, Bool.and_eq_true, mchB, ks3]
  refine ⟨hC, hin, by omega, ?_, ?_, hs⟩
  · rw [show hAt i v o bs st 0 = 0 from rfl]
    exact kae.2 ⟨fun z hz => (List.not_mem_nil hz).elim, rfl⟩
  · exact kae.2 ⟨fun z hz => .inl (List.eq_of_mem_replicate hz), by rw [List.length_replicate]; omega⟩

theorem implEx (i v o : Int) (bs : List TM) (st : List IN) (xs : List Int) (ss : List BS3) (inp : List Int) (h : exNd i v o bs st inp xs ss = true) :
    ksu i v o bs st xs ss inp = (rnM o bs st inp xs ss).2.2.2.1 ∧ kta i v o bs st xs ss inp = (rnM o bs st inp xs ss).2.2.1 ∧
    ksw i v o bs st xs ss inp = (rnM o bs st inp xs ss).2.2.2.2 ∧ ksr i v o bs st xs ss inp = true := by
  obtain ⟨h1, h2, h3, h4⟩ := ex_run h
  obtain ⟨f0, f1, f2, f3, f4, f5⟩ := implFin i v o bs st inp 0 [] xs (List.replicate o.toNat 0) ss h1
  have t1 : leN xs.length 1048576 = true := leN_t (by omega)
  have t2 : leN ss.length 1048576 = true := leN_t (by omega)
  have u1 : leI 0 o = true := leI_t h2.1
  have u2 : leI o o = true := leI_t (by omega)
  have u3 : leI (((8 : Nat) : Int) * o) 281474976710656 = true := leI_t (by omega)
  have u4 : leI o 9223372036854775807 = true := leI_t (by omega)
  simp only [ksu, kta, ksw, ksr, koz, kpe, kyg, k9v, f0, f1, f2, f3, f4, f5, t1, t2, u1, u2, u3, u4, allT, rnM, and_self, cond_true]

theorem specEx (i v o : Int) (bs : List TM) (st : List IN) (xs : List Int) (ss : List BS3) (inp : List Int) (h : exNd i v o bs st inp xs ss = true) :
    kvq i v o bs st xs ss inp = (rnM o bs st inp xs ss).2.2.2.1 ∧ kvm i v o bs st xs ss inp = (rnM o bs st inp xs ss).2.2.1 ∧
    kwe i v o bs st xs ss inp = (rnM o bs st inp xs ss).2.2.2.2 ∧ kvp i v o bs st xs ss inp = true := by
  obtain ⟨h1, h2, h3, h4⟩ := ex_run h
  obtain ⟨f0, f1, f2, f3, f4, f5⟩ := specFin i v o bs st inp 0 [] xs (List.replicate o.toNat 0) ss h1
  have t1 : leN xs.length 1048576 = true := leN_t (by omega)
  have t4 : leN (0 + ss.length) 9223372036854775807 = true := leN_t (by omega)
  have t5 : leN ((0 + ss.length) * 24) 140737488355328 = true := leN_t (by omega)
  have u1 : leI 0 o = true := leI_t h2.1
  have u2 : leI o o = true := leI_t (by omega)
  have u3 : leI (((8 : Nat) : Int) * o) 281474976710656 = true := leI_t (by omega)
  have u4 : leI o 9223372036854775807 = true := leI_t (by omega)
  simp only [kvq, kvm, kwe, kvp, klb, kl5, ksm, f0, f1, f2, f3, f4, f5, t1, t4, t5, u1, u2, u3, u4, allT, rnM, and_self, cond_true]

def kxa : List SV → List Entry → Option Out
  | [.one ⟨true, [.val (.int .i64 x0), .val (.int .i64 x1), .val (.int .i64 x2), .ref 0, .ref 1]⟩, .one ⟨true, [.ref 2, .ref 3]⟩, .one ⟨false, [.ref 4]⟩], [.row false 178 (.pair (.int .i64) (.pair (.str) (.int .i64))) x3, .row false 150 (.pair (.int .i64) (.int .i64)) x4, .row false 2 (.int .i64) x5, .row false 172 (.pair (.int .i64) (.pair (.int .i64) (.int .i64))) x6, .row false 2 (.int .i64) x7] => some ⟨(.tup [⟨false, [(.ref 5)]⟩, ⟨true, [(.ref 6), (.ref 7)]⟩]), [(.row false 178 (CTy.pair (CTy.int IntKind.i64) (CTy.pair CTy.str (CTy.int IntKind.i64))) x3), (.row false 150 (CTy.pair (CTy.int IntKind.i64) (CTy.int IntKind.i64)) x4), (.row false 2 (CTy.int IntKind.i64) x5), (.row false 172 (CTy.pair (CTy.int IntKind.i64) (CTy.pair (CTy.int IntKind.i64) (CTy.int IntKind.i64))) x6), (.row false 2 (CTy.int IntKind.i64) x7)], [(.row true 2 (CTy.int IntKind.i64) ((rnM x2 x3 x4 x7 x5 x6).2.2.2.1)), (.row true 2 (CTy.int IntKind.i64) ((rnM x2 x3 x4 x7 x5 x6).2.2.1)), (.row true 172 (CTy.pair (CTy.int IntKind.i64) (CTy.pair (CTy.int IntKind.i64) (CTy.int IntKind.i64))) ((rnM x2 x3 x4 x7 x5 x6).2.2.2.2))], [exNd x0 x1 x2 x3 x4 x7 x5 x6]⟩
  | _, _ => none

def kt8 : PF Tryz.prog := PF.alt k12g kxa (by
  intro args es o h hnd; unfold kxa at h; split at h
  · rename_i x0 x1 x2 x3 x4 x5 x6 x7
    cases h
    have hnd := nd_fst hnd
    have hh := implEx x0 x1 x2 x3 x4 x5 x6 x7 hnd
    obtain ⟨e0, e1, e2, en⟩ := hh
    exact altok rfl (nd_one en) rfl rfl (by simp only [e0, e1, e2] <;> rfl)
  · cases h)

def k10q : List SV → List Entry → Option Out
  | [.one ⟨true, [.val (.int .i64 x0), .val (.int .i64 x1), .val (.int .i64 x2), .ref 0, .ref 1]⟩, .one ⟨true, [.ref 2, .ref 3]⟩, .one ⟨false, [.ref 4]⟩], [.row false 178 (.pair (.int .i64) (.pair (.str) (.int .i64))) x3, .row false 150 (.pair (.int .i64) (.int .i64)) x4, .row false 2 (.int .i64) x5, .row false 172 (.pair (.int .i64) (.pair (.int .i64) (.int .i64))) x6, .row false 2 (.int .i64) x7] => some ⟨(.tup [⟨false, [(.ref 5)]⟩, ⟨true, [(.ref 6), (.ref 7)]⟩]), [(.row false 178 (CTy.pair (CTy.int IntKind.i64) (CTy.pair CTy.str (CTy.int IntKind.i64))) x3), (.row false 150 (CTy.pair (CTy.int IntKind.i64) (CTy.int IntKind.i64)) x4), (.row false 2 (CTy.int IntKind.i64) x5), (.row false 172 (CTy.pair (CTy.int IntKind.i64) (CTy.pair (CTy.int IntKind.i64) (CTy.int IntKind.i64))) x6), (.row false 2 (CTy.int IntKind.i64) x7)], [(.row false 2 (CTy.int IntKind.i64) ((rnM x2 x3 x4 x7 x5 x6).2.2.2.1)), (.row false 2 (CTy.int IntKind.i64) ((rnM x2 x3 x4 x7 x5 x6).2.2.1)), (.row false 172 (CTy.pair (CTy.int IntKind.i64) (CTy.pair (CTy.int IntKind.i64) (CTy.int IntKind.i64))) ((rnM x2 x3 x4 x7 x5 x6).2.2.2.2))], [exNd x0 x1 x2 x3 x4 x7 x5 x6]⟩
  | _, _ => none

def kvr : PF Tryz.prog := PF.alt k13u k10q (by
  intro args es o h hnd; unfold k10q at h; split at h
  · rename_i x0 x1 x2 x3 x4 x5 x6 x7
    cases h
    have hnd := nd_fst hnd
    have hh := specEx x0 x1 x2 x3 x4 x5 x6 x7 hnd
    obtain ⟨e0, e1, e2, en⟩ := hh
    exact altok rfl (nd_one en) rfl rfl (by simp only [e0, e1, e2] <;> rfl)
  · cases h)

end Go.SX

namespace Go.SX
open Go.Proofs
set_option maxRecDepth 100000

def kig (x0 : List Int) (x1 : Int) : Bool :=
  !bitsB x1 x0

def kiv (x0 : List Int) : Bool :=
  allT [leN (List.length x0) (9223372036854775807 : Nat)]

def kny : List SV → List Entry → Option Out
  | [(.one ⟨false, [(.ref 0)]⟩), (.one ⟨false, [(.ptr 1 0)]⟩)], [(.row false 2 (CTy.int IntKind.i64) x0), (.box 34 [(.val (.int IntKind.i64 x1)), (.val (.int IntKind.i64 x2)), (.val (.int IntKind.i64 x3)), (.ref 2), (.ref 3)]), (.row false 178 (CTy.pair (CTy.int IntKind.i64) (CTy.pair CTy.str (CTy.int IntKind.i64))) x4), (.row false 150 (CTy.pair (CTy.int IntKind.i64) (CTy.int IntKind.i64)) x5)] => some ⟨(.one ⟨false, [(.val (.bool (kig x0 x1)))]⟩), [(.row false 2 (CTy.int IntKind.i64) x0), (.box 34 [(.val (.int IntKind.i64 x1)), (.val (.int IntKind.i64 x2)), (.val (.int IntKind.i64 x3)), (.ref 2), (.ref 3)]), (.row false 178 (CTy.pair (CTy.int IntKind.i64) (CTy.pair CTy.str (CTy.int IntKind.i64))) x4), (.row false 150 (CTy.pair (CTy.int IntKind.i64) (CTy.int IntKind.i64)) x5)], [], [(kiv x0)]⟩
  | _, _ => none

def k94 : PF Tryz.prog := PF.ofG Tryz.prog [kf8, PF.lend kf8, PF.fz kf8] [] hmix 164 Tryz.f164 Tryz.func164 (fun c _ => LOk.nil c) kny (by
  intro vs es r h; unfold kny at h; split at h
  · cases h; kernel_rfl
  · cases h)

abbrev k1m := Int × Int × Int × Int × Int × List (List Int) × List (Int × (ByteArray × Int)) × List (Int × Int)

def k1w (y0 : Int) (y5 : List (List Int)) : List Int :=
  Option.getD y5[Int.toNat y0]? (dflt (CTy.sl (2 : TypeId) (CTy.int IntKind.i64)))

def k41 (y0 : Int) (y1 : Int) : Bool :=
  ltI y0 y1

def k6h (y0 : Int) : Bool :=
  leI (0 : Int) y0

def k6m (y0 : Int) (y5 : List (List Int)) : Bool :=
  ltI y0 (↑(List.length y5) : Int)

def k6p (y0 : Int) (y5 : List (List Int)) : Bool :=
  ltN (Int.toNat y0) (List.length y5)

def k6i (y0 : Int) (y5 : List (List Int)) : Bool :=
  kiv (k1w y0 y5)

def k40 (y0 : Int) (y2 : Int) (y5 : List (List Int)) : Bool :=
  kig (k1w y0 y5) y2

def k6k (y0 : Int) : Int :=
  IntKind.wrap IntKind.i64 (y0 + (1 : Int))

def kmb : k1m → List (Nat × SV)
  | (y0, y1, _, _, _, _, _, _) => [(8, (.one ⟨false, [(.val (.int IntKind.i64 y0))]⟩)), (7, (.one ⟨false, [(.val (.int IntKind.i64 y1))]⟩)), (1, (.one ⟨false, [(.clo 164 [0])]⟩)), (0, (.one ⟨false, [(.ref 1)]⟩))]

def kly : k1m → List (Nat × Entry)
  | (_, _, y2, y3, y4, y5, y6, y7) => [(0, (.box 34 [(.val (.int IntKind.i64 y2)), (.val (.int IntKind.i64 y3)), (.val (.int IntKind.i64 y4)), (.ref 2), (.ref 3)])), (1, (.row false 41 (CTy.sl (2 : TypeId) (CTy.int IntKind.i64)) y5)), (2, (.row false 178 (CTy.pair (CTy.int IntKind.i64) (CTy.pair CTy.str (CTy.int IntKind.i64))) y6)), (3, (.row false 150 (CTy.pair (CTy.int IntKind.i64) (CTy.int IntKind.i64)) y7))]

def klx : Nat → k1m → List (Nat × SV)
  | 0, (y0, _, _, _, _, _, _, _) => [(4, (.one ⟨false, [(.val (.int IntKind.i64 y0))]⟩))]
  | _, (_, _, _, _, _, _, _, _) => []

def km1 : Nat → k1m → List (Nat × Entry)
  | 0, (_, _, y2, y3, y4, y5, y6, y7) => [(0, (.box 34 [(.val (.int IntKind.i64 y2)), (.val (.int IntKind.i64 y3)), (.val (.int IntKind.i64 y4)), (.ref 2), (.ref 3)])), (1, (.row false 41 (CTy.sl (2 : TypeId) (CTy.int IntKind.i64)) y5)), (2, (.row false 178 (CTy.pair (CTy.int IntKind.i64) (CTy.pair CTy.str (CTy.int IntKind.i64))) y6)), (3, (.row false 150 (CTy.pair (CTy.int IntKind.i64) (CTy.int IntKind.i64)) y7))]
  | _, (_, _, y2, y3, y4, y5, y6, y7) => [(0, (.box 34 [(.val (.int IntKind.i64 y2)), (.val (.int IntKind.i64 y3)), (.val (.int IntKind.i64 y4)), (.ref 2), (.ref 3)])), (1, (.row false 41 (CTy.sl (2 : TypeId) (CTy.int IntKind.i64)) y5)), (2, (.row false 178 (CTy.pair (CTy.int IntKind.i64) (CTy.pair CTy.str (CTy.int IntKind.i64))) y6)), (3, (.row false 150 (CTy.pair (CTy.int IntKind.i64) (CTy.int IntKind.i64)) y7))]

def k3o : k1m → LT k1m
  | (y0, y1, y2, y3, y4, y5, y6, y7) => .ite (k41 y0 y1) (.need [(k6h y0), (k6m y0 y5), (k6p y0 y5), (k6i y0 y5)] (.ite (k40 y0 y2 y5) (.ext 0 [(0, 0), (1, 1), (2, 2), (3, 3)]) (.nrm ((k6k y0), y1, y2, y3, y4, y5, y6, y7) [(0, 0), (1, 1), (2, 2), (3, 3)]))) (.ext 1 [(0, 0), (1, 1), (2, 2), (3, 3)])

def k9n (s : St) : Option k1m :=
  (match s.look 8 with
  | some ⟨none, (.one ⟨false, [(.val (.int IntKind.i64 y0))]⟩)⟩ =>
  (match s.look 7 with
  | some ⟨none, (.one ⟨false, [(.val (.int IntKind.i64 y1))]⟩)⟩ =>
  (match s.look 1 with
  | some ⟨none, (.one ⟨false, [(.clo 164 [1])]⟩)⟩ =>
  (match s.look 0 with
  | some ⟨none, (.one ⟨false, [(.ref 0)]⟩)⟩ =>
  (match s.ent 1 with
  | some (.box 34 [(.val (.int IntKind.i64 y2)), (.val (.int IntKind.i64 y3)), (.val (.int IntKind.i64 y4)), (.ref 2), (.ref 3)]) =>
  (match s.ent 0 with
  | some (.row false 41 (CTy.sl (2 : TypeId) (CTy.int IntKind.i64)) y5) =>
  (match s.ent 2 with
  | some (.row false 178 (CTy.pair (CTy.int IntKind.i64) (CTy.pair CTy.str (CTy.int IntKind.i64))) y6) =>
  (match s.ent 3 with
  | some (.row false 150 (CTy.pair (CTy.int IntKind.i64) (CTy.int IntKind.i64)) y7) =>
  some (y0, y1, y2, y3, y4, y5, y6, y7)
  | _ => none)
  | _ => none)
  | _ => none)
  | _ => none)
  | _ => none)
  | _ => none)
  | _ => none)
  | _ => none)

def kw : Lp k1m where
  h := ⟨[9, 10, 5, 11, 12, 13, 14, 15, 16, 17, 4, 18, 8], [0, 1, 2, 3], [], []⟩
  JL := kmb
  JE := kly
  XL := klx
  XE := km1
  q := fun j => match j with | 0 => .ret | _ => .exit 0
  tags := [0, 1]
  lt := k3o
  fuel := fun (y0, y1, y2, y3, y4, y5, y6, y7) => y0.natAbs + y1.natAbs + y2.natAbs + y3.natAbs + y4.natAbs + y5.length + y6.length + y7.length
  fix := fun (_, y1, y2, y3, y4, y5, y6, y7) (y0, _, _, _, _, _, _, _) => (y0, y1, y2, y3, y4, y5, y6, y7)
  σ := [(0, 1), (1, 0), (2, 2), (3, 3)]
  rd := k9n

theorem kli : LoopOk Tryz.prog (fun k => Nat.blt k Tryz.f217.ntmps) kw.F (loopAt Tryz.f217 0) := by
  refine Lp.ok (tbl := [k94, PF.lend k94, PF.fz k94]) (lf := []) hmix kw (by kernel_rfl) (LOk.nil _) (fun _ => rfl) (fun j _ => by unfold kw; match j with | 0 => rfl | _ + 1 => rfl) ?_ ?_ ?_ ?_ (fun _ => rfl) ?_
  · intro x; obtain ⟨y0, y1, y2, y3, y4, y5, y6, y7⟩ := x; kernel_rfl
  · intro x; obtain ⟨y0, y1, y2, y3, y4, y5, y6, y7⟩ := x; kernel_rfl
  · intro s x h
    have h : k9n s = some x := h
    unfold k9n at h
    repeat' split at h
    all_goals cases h
    exact ⟨absS_cons (by assumption) rfl (absS_cons (by assumption) rfl (absS_cons (by assumption) rfl (absS_cons (by assumption) rfl (rfl)))), absE_cons rfl (by assumption) rfl (absE_cons rfl (by assumption) rfl (absE_cons rfl (by assumption) rfl (absE_cons rfl (by assumption) rfl (rfl))))⟩
  · intro x; obtain ⟨y0, y1, y2, y3, y4, y5, y6, y7⟩ := x; kernel_rfl
  · intro x z; obtain ⟨y0, y1, y2, y3, y4, y5, y6, y7⟩ := x; exact (And.intro (And.intro trivial rfl) trivial)

def k7d (x0 : List (List Int)) (x1 : Int) (x2 : Int) (x3 : Int) (x4 : List (Int × ByteArray × Int)) (x5 : List (Int × Int)) : Int × Int × Int × Int × Int × List (List Int) × List (Int × ByteArray × Int) × List (Int × Int) :=
  ((0 : Int), (↑(List.length x0) : Int), x1, x2, x3, x0, x4, x5)

def k51 (x0 : List (List Int)) (x1 : Int) (x2 : Int) (x3 : Int) (x4 : List (Int × ByteArray × Int)) (x5 : List (Int × Int)) : Bool :=
  Nat.beq (Prod.fst (Lp.res kw (k7d x0 x1 x2 x3 x4 x5))) (0 : Nat)

def kbi (x0 : List (List Int)) (x1 : Int) (x2 : Int) (x3 : Int) (x4 : List (Int × ByteArray × Int)) (x5 : List (Int × Int)) : Int :=
  bif k51 x0 x1 x2 x3 x4 x5 then
  Prod.fst (Prod.snd (Lp.res kw (k7d x0 x1 x2 x3 x4 x5)))
  else (-1 : Int)

def kgb (x0 : List (List Int)) (x1 : Int) (x2 : Int) (x3 : Int) (x4 : List (Int × ByteArray × Int)) (x5 : List (Int × Int)) : Int :=
  bif k51 x0 x1 x2 x3 x4 x5 then x1 else x1

def kfy (x0 : List (List Int)) (x1 : Int) (x2 : Int) (x3 : Int) (x4 : List (Int × ByteArray × Int)) (x5 : List (Int × Int)) : Int :=
  bif k51 x0 x1 x2 x3 x4 x5 then x2 else x2

def kg4 (x0 : List (List Int)) (x1 : Int) (x2 : Int) (x3 : Int) (x4 : List (Int × ByteArray × Int)) (x5 : List (Int × Int)) : Int :=
  bif k51 x0 x1 x2 x3 x4 x5 then x3 else x3

def kbm (x0 : List (List Int)) (x1 : Int) (x2 : Int) (x3 : Int) (x4 : List (Int × ByteArray × Int)) (x5 : List (Int × Int)) : Bool :=
  allT [Lp.fin kw (k7d x0 x1 x2 x3 x4 x5)]

def kfq : List SV → List Entry → Option Out
  | [(.one ⟨false, [(.ref 0)]⟩), (.one ⟨false, [(.clo 164 [1])]⟩)], [(.row false 41 (CTy.sl (2 : TypeId) (CTy.int IntKind.i64)) x0), (.box 34 [(.val (.int IntKind.i64 x1)), (.val (.int IntKind.i64 x2)), (.val (.int IntKind.i64 x3)), (.ref 2), (.ref 3)]), (.row false 178 (CTy.pair (CTy.int IntKind.i64) (CTy.pair CTy.str (CTy.int IntKind.i64))) x4), (.row false 150 (CTy.pair (CTy.int IntKind.i64) (CTy.int IntKind.i64)) x5)] => some ⟨(.one ⟨false, [(.val (.int IntKind.i64 (kbi x0 x1 x2 x3 x4 x5)))]⟩), [(.row false 41 (CTy.sl (2 : TypeId) (CTy.int IntKind.i64)) x0), (.box 34 [(.val (.int IntKind.i64 (kgb x0 x1 x2 x3 x4 x5))), (.val (.int IntKind.i64 (kfy x0 x1 x2 x3 x4 x5))), (.val (.int IntKind.i64 (kg4 x0 x1 x2 x3 x4 x5))), (.ref 2), (.ref 3)]), (.row false 178 (CTy.pair (CTy.int IntKind.i64) (CTy.pair CTy.str (CTy.int IntKind.i64))) x4), (.row false 150 (CTy.pair (CTy.int IntKind.i64) (CTy.int IntKind.i64)) x5)], [], [(kbm x0 x1 x2 x3 x4 x5)]⟩
  | _, _ => none

def kbk : PF Tryz.prog := PF.ofG Tryz.prog [k94, PF.lend k94, PF.fz k94] [kw.F] hmix 217 Tryz.f217 Tryz.func217 (LOk.fnT (l := [loopAt Tryz.f217 0]) (by kernel_rfl) (.cons kli (.nil _))) kfq (by
  intro vs es r h; unfold kfq at h; split at h
  · cases h; kernel_rfl
  · cases h)

def ka7 (x0 : List (List Int)) (x1 : Int) (x2 : Int) (x3 : Int) (x4 : List (Int × ByteArray × Int)) (x5 : List (Int × Int)) : Bool :=
  leI (0 : Int) (kbi x0 x1 x2 x3 x4 x5)

def kmr (x0 : List (List Int)) (x1 : Int) (x2 : Int) (x3 : Int) (x4 : List (Int × ByteArray × Int)) (x5 : List (Int × Int)) : Int :=
  kgb x0 x1 x2 x3 x4 x5

def kmm (x0 : List (List Int)) (x1 : Int) (x2 : Int) (x3 : Int) (x4 : List (Int × ByteArray × Int)) (x5 : List (Int × Int)) : Int :=
  kfy x0 x1 x2 x3 x4 x5

def kmg (x0 : List (List Int)) (x1 : Int) (x2 : Int) (x3 : Int) (x4 : List (Int × ByteArray × Int)) (x5 : List (Int × Int)) : Int :=
  kg4 x0 x1 x2 x3 x4 x5

def ka5 (x0 : List (List Int)) (x1 : Int) (x2 : Int) (x3 : Int) (x4 : List (Int × ByteArray × Int)) (x5 : List (Int × Int)) : Bool :=
  allT [kbm x0 x1 x2 x3 x4 x5]

def kes : List SV → List Entry → Option Out
  | [(.one ⟨false, [(.ref 0)]⟩), (.one ⟨false, [(.clo 164 [1])]⟩)], [(.row false 41 (CTy.sl (2 : TypeId) (CTy.int IntKind.i64)) x0), (.box 34 [(.val (.int IntKind.i64 x1)), (.val (.int IntKind.i64 x2)), (.val (.int IntKind.i64 x3)), (.ref 2), (.ref 3)]), (.row false 178 (CTy.pair (CTy.int IntKind.i64) (CTy.pair CTy.str (CTy.int IntKind.i64))) x4), (.row false 150 (CTy.pair (CTy.int IntKind.i64) (CTy.int IntKind.i64)) x5)] => some ⟨(.one ⟨false, [(.val (.bool (ka7 x0 x1 x2 x3 x4 x5)))]⟩), [(.row false 41 (CTy.sl (2 : TypeId) (CTy.int IntKind.i64)) x0), (.box 34 [(.val (.int IntKind.i64 (kmr x0 x1 x2 x3 x4 x5))), (.val (.int IntKind.i64 (kmm x0 x1 x2 x3 x4 x5))), (.val (.int IntKind.i64 (kmg x0 x1 x2 x3 x4 x5))), (.ref 2), (.ref 3)]), (.row false 178 (CTy.pair (CTy.int IntKind.i64) (CTy.pair CTy.str (CTy.int IntKind.i64))) x4), (.row false 150 (CTy.pair (CTy.int IntKind.i64) (CTy.int IntKind.i64)) x5)], [], [(ka5 x0 x1 x2 x3 x4 x5)]⟩
  | _, _ => none

def ka6 : PF Tryz.prog := PF.ofG Tryz.prog [kbk, PF.lend kbk, PF.fz kbk] [] hmix 163 Tryz.f163 Tryz.func163 (fun c _ => LOk.nil c) kes (by
  intro vs es r h; unfold kes at h; split at h
  · cases h; kernel_rfl
  · cases h)

def knn (x0 : Int) (x1 : Int) (x2 : Int) (x3 : List (Int × ByteArray × Int)) (x4 : List (Int × Int)) (x5 : List Int) (x6 : List (Int × Int × Int)) (x7 : List (List Int)) : Int :=
  bif !codeB x0 x1 x2 x3 x4 then (1 : Int)
  else bif bif !suitB x1 x3 x5 x6 then true else ka7 x7 x0 x1 x2 x3 x4 then (2 : Int) else (0 : Int)

def kni (x0 : Int) (x1 : Int) (x2 : Int) (x3 : List (Int × ByteArray × Int)) (x4 : List (Int × Int)) (x5 : List Int) (x6 : List (Int × Int × Int)) (x7 : List (List Int)) : Bool :=
  allT
  [!codeB x0 x1 x2 x3 x4 || leN (List.length x5) (9223372036854775807 : Nat) && (leN (List.length x3) (9223372036854775807 : Nat) && blksB x3),
    !codeB x0 x1 x2 x3 x4 || (!(!!suitB x1 x3 x5 x6 && true) || ka5 x7 x0 x1 x2 x3 x4)]

def kv3 : List SV → List Entry → Option Out
  | [.one ⟨true, [.val (.int .i64 x0), .val (.int .i64 x1), .val (.int .i64 x2), .ref 0, .ref 1]⟩, .one ⟨true, [.ref 2, .ref 3]⟩, .one ⟨false, [.ref 4]⟩], [.row false 178 (.pair (.int .i64) (.pair (.str) (.int .i64))) x3, .row false 150 (.pair (.int .i64) (.int .i64)) x4, .row false 2 (.int .i64) x5, .row false 172 (.pair (.int .i64) (.pair (.int .i64) (.int .i64))) x6, .row false 41 (.sl 2 (.int .i64)) x7] => some ⟨(.one ⟨false, [(.val (.int IntKind.i64 (knn x0 x1 x2 x3 x4 x5 x6 x7)))]⟩), [(.row false 178 (CTy.pair (CTy.int IntKind.i64) (CTy.pair CTy.str (CTy.int IntKind.i64))) x3), (.row false 150 (CTy.pair (CTy.int IntKind.i64) (CTy.int IntKind.i64)) x4), (.row false 2 (CTy.int IntKind.i64) x5), (.row false 172 (CTy.pair (CTy.int IntKind.i64) (CTy.pair (CTy.int IntKind.i64) (CTy.int IntKind.i64))) x6), (.row false 41 (CTy.sl (2 : TypeId) (CTy.int IntKind.i64)) x7)], [], [(kni x0 x1 x2 x3 x4 x5 x6 x7)]⟩
  | _, _ => none

def kqa : PF Tryz.prog := PF.ofG Tryz.prog [ka1, PF.lend ka1, PF.fz ka1, kvy, PF.lend kvy, PF.fz kvy, ka6, PF.lend ka6, PF.fz ka6] [] hmix 94 Tryz.f94 Tryz.func94 (fun c _ => LOk.nil c) kv3 (by
  intro vs es r h; unfold kv3 at h; split at h
  · cases h; kernel_rfl
  · cases h)

def kla (x0 : Int) (x1 : Int) (x3 : List (Int × ByteArray × Int)) (x5 : List Int) (x6 : List (Int × Int × Int)) (x7 : List Int) : Bool :=
  bif !suitB x1 x3 x5 x6 then true else !bitsB x0 x7

def ku3 (x0 : Int) (x1 : Int) (x2 : Int) (x3 : List (Int × ByteArray × Int)) (x4 : List (Int × Int)) (x5 : List Int) (x6 : List (Int × Int × Int)) (x7 : List Int) : Int :=
  bif !codeB x0 x1 x2 x3 x4 then (1 : Int) else bif kla x0 x1 x3 x5 x6 x7 then (2 : Int) else (0 : Int)

def kus (x0 : Int) (x1 : Int) (x2 : Int) (x3 : List (Int × ByteArray × Int)) (x4 : List (Int × Int)) (x5 : List Int) (x6 : List (Int × Int × Int)) (x7 : List Int) : List Int :=
  bif !codeB x0 x1 x2 x3 x4 then []
  else bif kla x0 x1 x3 x5 x6 x7 then [] else Prod.fst (Prod.snd (Prod.snd (Prod.snd (rnM x2 x3 x4 x7 x5 x6))))

def kux (x0 : Int) (x1 : Int) (x2 : Int) (x3 : List (Int × ByteArray × Int)) (x4 : List (Int × Int)) (x5 : List Int) (x6 : List (Int × Int × Int)) (x7 : List Int) : List Int :=
  bif !codeB x0 x1 x2 x3 x4 then [] else bif kla x0 x1 x3 x5 x6 x7 then [] else Prod.fst (Prod.snd (Prod.snd (rnM x2 x3 x4 x7 x5 x6)))

def kup (x0 : Int) (x1 : Int) (x2 : Int) (x3 : List (Int × ByteArray × Int)) (x4 : List (Int × Int)) (x5 : List Int) (x6 : List (Int × Int × Int)) (x7 : List Int) : List (Int × (Int × Int)) :=
  bif !codeB x0 x1 x2 x3 x4 then []
  else bif kla x0 x1 x3 x5 x6 x7 then [] else Prod.snd (Prod.snd (Prod.snd (Prod.snd (rnM x2 x3 x4 x7 x5 x6))))

def kuf (x0 : Int) (x1 : Int) (x2 : Int) (x3 : List (Int × ByteArray × Int)) (x4 : List (Int × Int)) (x5 : List Int) (x6 : List (Int × Int × Int)) (x7 : List Int) : Bool :=
  allT
  [tsOk x3, !codeB x0 x1 x2 x3 x4 || leN (List.length x5) (9223372036854775807 : Nat) && leN (List.length x3) (9223372036854775807 : Nat),
    !codeB x0 x1 x2 x3 x4 || (!(!!suitB x1 x3 x5 x6 && true) || leN (List.length x7) (9223372036854775807 : Nat)),
    !codeB x0 x1 x2 x3 x4 || (kla x0 x1 x3 x5 x6 x7 || exNd x0 x1 x2 x3 x4 x7 x5 x6)]

def kyx : List SV → List Entry → Option Out
  | [.one ⟨true, [.val (.int .i64 x0), .val (.int .i64 x1), .val (.int .i64 x2), .ref 0, .ref 1]⟩, .one ⟨true, [.ref 2, .ref 3]⟩, .one ⟨false, [.ref 4]⟩], [.row false 178 (.pair (.int .i64) (.pair (.str) (.int .i64))) x3, .row false 150 (.pair (.int .i64) (.int .i64)) x4, .row false 2 (.int .i64) x5, .row false 172 (.pair (.int .i64) (.pair (.int .i64) (.int .i64))) x6, .row false 2 (.int .i64) x7] => some ⟨(.tup [⟨false, [(.ref 5)]⟩, ⟨true, [(.ref 6), (.ref 7)]⟩, ⟨false, [(.val (.int IntKind.i64 (ku3 x0 x1 x2 x3 x4 x5 x6 x7)))]⟩]), [(.row false 178 (CTy.pair (CTy.int IntKind.i64) (CTy.pair CTy.str (CTy.int IntKind.i64))) x3), (.row false 150 (CTy.pair (CTy.int IntKind.i64) (CTy.int IntKind.i64)) x4), (.row false 2 (CTy.int IntKind.i64) x5), (.row false 172 (CTy.pair (CTy.int IntKind.i64) (CTy.pair (CTy.int IntKind.i64) (CTy.int IntKind.i64))) x6), (.row false 2 (CTy.int IntKind.i64) x7)], [(.row false 2 (CTy.int IntKind.i64) (kus x0 x1 x2 x3 x4 x5 x6 x7)), (.row false 2 (CTy.int IntKind.i64) (kux x0 x1 x2 x3 x4 x5 x6 x7)), (.row false 172 (CTy.pair (CTy.int IntKind.i64) (CTy.pair (CTy.int IntKind.i64) (CTy.int IntKind.i64))) (kup x0 x1 x2 x3 x4 x5 x6 x7))], [(kuf x0 x1 x2 x3 x4 x5 x6 x7)]⟩
  | _, _ => none

def k139 : PF Tryz.prog := PF.ofG Tryz.prog [kst, PF.lend kst, PF.fz kst, kw7, PF.lend kw7, PF.fz kw7, kf7, PF.lend kf7, PF.fz kf7, kvr, PF.lend kvr, PF.fz kvr] [] hmix 27 Tryz.f27 Tryz.func27 (fun c _ => LOk.nil c) kyx (by
  intro vs es r h; unfold kyx at h; split at h
  · cases h; kernel_rfl
  · cases h)

def kt5 (x0 : Int) (x1 : Int) (x2 : Int) (x3 : List (Int × ByteArray × Int)) (x4 : List (Int × Int)) (x5 : List Int) (x6 : List (Int × Int × Int)) (x7 : List Int) : Int :=
  knn x0 x1 x2 x3 x4 x5 x6 [x7]

def kl9 (x0 : Int) (x1 : Int) (x2 : Int) (x3 : List (Int × ByteArray × Int)) (x4 : List (Int × Int)) (x5 : List Int) (x6 : List (Int × Int × Int)) (x7 : List Int) : Bool :=
  kt5 x0 x1 x2 x3 x4 x5 x6 x7 != (0 : Int)

def ku2 (x0 : Int) (x1 : Int) (x2 : Int) (x3 : List (Int × ByteArray × Int)) (x4 : List (Int × Int)) (x5 : List Int) (x6 : List (Int × Int × Int)) (x7 : List Int) : Int :=
  bif kl9 x0 x1 x2 x3 x4 x5 x6 x7 then kt5 x0 x1 x2 x3 x4 x5 x6 x7 else (0 : Int)

def kub (x0 : Int) (x1 : Int) (x2 : Int) (x3 : List (Int × ByteArray × Int)) (x4 : List (Int × Int)) (x5 : List Int) (x6 : List (Int × Int × Int)) (x7 : List Int) : List Int :=
  bif kl9 x0 x1 x2 x3 x4 x5 x6 x7 then [] else Prod.fst (Prod.snd (Prod.snd (Prod.snd (rnM x2 x3 x4 x7 x5 x6))))

def kum (x0 : Int) (x1 : Int) (x2 : Int) (x3 : List (Int × ByteArray × Int)) (x4 : List (Int × Int)) (x5 : List Int) (x6 : List (Int × Int × Int)) (x7 : List Int) : List Int :=
  bif kl9 x0 x1 x2 x3 x4 x5 x6 x7 then [] else Prod.fst (Prod.snd (Prod.snd (rnM x2 x3 x4 x7 x5 x6)))

def kuj (x0 : Int) (x1 : Int) (x2 : Int) (x3 : List (Int × ByteArray × Int)) (x4 : List (Int × Int)) (x5 : List Int) (x6 : List (Int × Int × Int)) (x7 : List Int) : List (Int × (Int × Int)) :=
  bif kl9 x0 x1 x2 x3 x4 x5 x6 x7 then [] else Prod.snd (Prod.snd (Prod.snd (Prod.snd (rnM x2 x3 x4 x7 x5 x6))))

def kty (x0 : Int) (x1 : Int) (x2 : Int) (x3 : List (Int × ByteArray × Int)) (x4 : List (Int × Int)) (x5 : List Int) (x6 : List (Int × Int × Int)) (x7 : List Int) : Bool :=
  allT [kni x0 x1 x2 x3 x4 x5 x6 [x7], kl9 x0 x1 x2 x3 x4 x5 x6 x7 || exNd x0 x1 x2 x3 x4 x7 x5 x6]

def kzb : List SV → List Entry → Option Out
  | [.one ⟨true, [.val (.int .i64 x0), .val (.int .i64 x1), .val (.int .i64 x2), .ref 0, .ref 1]⟩, .one ⟨true, [.ref 2, .ref 3]⟩, .one ⟨false, [.ref 4]⟩], [.row false 178 (.pair (.int .i64) (.pair (.str) (.int .i64))) x3, .row false 150 (.pair (.int .i64) (.int .i64)) x4, .row false 2 (.int .i64) x5, .row false 172 (.pair (.int .i64) (.pair (.int .i64) (.int .i64))) x6, .row false 2 (.int .i64) x7] => some ⟨(.tup [⟨false, [(.ref 5)]⟩, ⟨true, [(.ref 6), (.ref 7)]⟩, ⟨false, [(.val (.int IntKind.i64 (ku2 x0 x1 x2 x3 x4 x5 x6 x7)))]⟩]), [(.row false 178 (CTy.pair (CTy.int IntKind.i64) (CTy.pair CTy.str (CTy.int IntKind.i64))) x3), (.row false 150 (CTy.pair (CTy.int IntKind.i64) (CTy.int IntKind.i64)) x4), (.row false 2 (CTy.int IntKind.i64) x5), (.row false 172 (CTy.pair (CTy.int IntKind.i64) (CTy.pair (CTy.int IntKind.i64) (CTy.int IntKind.i64))) x6), (.row false 2 (CTy.int IntKind.i64) x7)], [(.row true 2 (CTy.int IntKind.i64) (kub x0 x1 x2 x3 x4 x5 x6 x7)), (.row true 2 (CTy.int IntKind.i64) (kum x0 x1 x2 x3 x4 x5 x6 x7)), (.row true 172 (CTy.pair (CTy.int IntKind.i64) (CTy.pair (CTy.int IntKind.i64) (CTy.int IntKind.i64))) (kuj x0 x1 x2 x3 x4 x5 x6 x7))], [(kty x0 x1 x2 x3 x4 x5 x6 x7)]⟩
  | _, _ => none

def k13c : PF Tryz.prog := PF.ofG Tryz.prog [kqa, PF.lend kqa, PF.fz kqa, kt8, PF.lend kt8, PF.fz kt8] [] hmix 30 Tryz.f30 Tryz.func30 (fun c _ => LOk.nil c) kzb (by
  intro vs es r h; unfold kzb at h; split at h
  · cases h; kernel_rfl
  · cases h)

end Go.SX

namespace Go.SX
open Go.Proofs
set_option maxRecDepth 100000

theorem k15r {i v o : Int} {bs : List TM} {st : List IN} (h : codeB i v o bs st = true) : ((0 ≤ i ∧ i ≤ 20) ∧ (0 ≤ v ∧ v ≤ 20) ∧ (0 ≤ o ∧ o ≤ 20) ∧ bs.length ≤ 2000 ∧ st.length ≤ 2000) ∧ blksB bs = true ∧ hgtOk i v o bs st = true := by
  simp only [codeB, Bool.and_eq_true] at h
  exact ⟨kvs.1 h.1, h.2.1, h.2.2⟩

def mcCode (i v o : Int) (bs : List TM) (st : List IN) (xs : List Int) (ss : List BS3) (l : List (List Int)) : Int := bif !codeB i v o bs st then 1 else bif !(suitB v bs xs ss && l.all (bitsB i)) then 2 else 0
def listNd (l : List (List Int)) : Bool := leN l.length 9223372036854775807 && l.all fun x => leN x.length 9223372036854775807
def mcNd (bs : List TM) (xs : List Int) (l : List (List Int)) : Bool := leN xs.length 9223372036854775807 && (leN bs.length 9223372036854775807 && listNd l)

def k3v (y2 : Int) (b : List Int) : (Unit) → Nat ⊕ (Unit)
  | _ => (bif ((kig ((b)) y2)) then (.inl 0) else (.inr ()))

def k1x (y2 : Int) (y3 : Int) (y4 : Int) (y5 : List (List Int)) (y6 : List (Int × (ByteArray × Int))) (y7 : List (Int × Int)) (i : Nat) : (Unit) → k1m
  | _ => ((i : Int), (↑(List.length y5) : Int), y2, y3, y4, y5, y6, y7)

def k9k : k1m → Unit
  | (_, _, _, _, _, _, _, _) => ()

theorem kmi (y2 : Int) (y3 : Int) (y4 : Int) (y5 : List (List Int)) (y6 : List (Int × (ByteArray × Int))) (y7 : List (Int × Int))  (hn : y5.length ≤ 9223372036854775807) (hA : ∀ x ∈ y5, x.length ≤ 9223372036854775807) :
    kw.fin ((0 : Int), (↑(List.length y5) : Int), y2, y3, y4, y5, y6, y7) = true ∧ kw.res ((0 : Int), (↑(List.length y5) : Int), y2, y3, y4, y5, y6, y7) = ((walkL (k3v y2) 1 y5 0 ()).1, (k1x y2 y3 y4 y5 y6 y7) (walkL (k3v y2) 1 y5 0 ()).2.1 (walkL (k3v y2) 1 y5 0 ()).2.2) := by
  have key := kw.along (k1x y2 y3 y4 y5 y6 y7) k9k (k3v y2) 1 (fun _ _ => True) y5 () (by trivial) (by simp only [kw, k1x]; omega) (fun i b a hb hI => ?_) (fun a hI => ?_)
  · exact key
  · obtain ⟨⟩ := a
    have hlt := (List.getElem?_eq_some_iff.1 hb).1
    have hget : ∀ d, Option.getD y5[i]? d = b := fun d => by rw [hb]; rfl
    have hw := wrap64 hlt hn
    have hdec : ltI (i : Int) (y5.length : Int) = true := ltI_t (by omega)
    have hnn : leI (0 : Int) (i : Int) = true := leI_t (by omega)
    have hltd : ltN i y5.length = true := ltN_t hlt
    refine ⟨?_, ?_, ?_, ?_⟩
    · have hg2 : k1w (i : Int) y5 = b := by simp only [k1w, Int.toNat_natCast]; exact hget _
      have h6 : leN b.length 9223372036854775807 = true := leN_t (hA b (List.mem_of_getElem? hb))
      simp [k41, k6h, k6m, k6p, k6i, k40, k6k, k3o, kw, LT.nds, allT, k1x, kiv, hdec, hnn, hltd, hg2, h6]
    · simp [k1w, k41, k6h, k6m, k6p, k6i, k40, k6k, k3o, kw, LT.each, k1x, k9k, hw]
    · have hg2 : k1w (i : Int) y5 = b := by simp only [k1w, Int.toNat_natCast]; exact hget _
      simp only [k41, k40, k3o, kw, LT.fn, k1x, k9k, k3v, Int.toNat_natCast, hdec, hg2, cond_true]
    · exact fun _ _ => trivial
  · obtain ⟨⟩ := a
    simp [k1w, k41, k6h, k6m, k6p, k6i, k40, k6k, k3o, kw, LT.out, k1x]

theorem memCode (i v o : Int) (bs : List TM) (st : List IN) (xs : List Int) (ss : List BS3) (l : List (List Int)) (h : mcNd bs xs l = true) :
    knn i v o bs st xs ss l = mcCode i v o bs st xs ss l ∧ kni i v o bs st xs ss l = true := by
  simp only [mcNd, listNd, Bool.and_eq_true, List.all_eq_true, leN_iff] at h
  obtain ⟨hx, hb, hl, hA⟩ := h
  have t1 : leN xs.length 9223372036854775807 = true := leN_t hx
  have t2 : leN bs.length 9223372036854775807 = true := leN_t hb
  obtain ⟨w1, w2⟩ := kmi i v o l bs st hl hA
  rw [walk_stop (P := fun x => !bitsB i x) (j := 0) (fun x => rfl)] at w2
  have e5 : (l.any fun x => !bitsB i x) = !l.all (bitsB i) := by simp [List.all_eq_not_any_not]
  rw [e5] at w2
  have q : ∀ m : Nat, leI 0 (m : Int) = true := fun m => leI_t (by omega)
  have q2 : leI 0 (-1) = false := rfl
  simp only [knn, kni, ka7, ka5, kbi, kbm, k51, k7d, w1, w2, t1, t2, mcCode, allT]
  cases hc : codeB i v o bs st with
  | false => exact ⟨rfl, rfl⟩
  | true =>
    rw [(k15r hc).2.1]
    cases suitB v bs xs ss <;> cases l.all (bitsB i) <;> simp [Nat.beq, q, q2, k1x]

def rcCode (i v o : Int) (bs : List TM) (st : List IN) (xs : List Int) (ss : List BS3) (inp : List Int) : Int := bif !codeB i v o bs st then 1 else bif !(suitB v bs xs ss && bitsB i inp) then 2 else 0
def rcO (i v o : Int) (bs : List TM) (st : List IN) (xs : List Int) (ss : List BS3) (inp : List Int) : List Int := bif rcCode i v o bs st xs ss inp == 0 then (rnM o bs st inp xs ss).2.2.2.1 else []
def rcV (i v o : Int) (bs : List TM) (st : List IN) (xs : List Int) (ss : List BS3) (inp : List Int) : List Int := bif rcCode i v o bs st xs ss inp == 0 then (rnM o bs st inp xs ss).2.2.1 else []
def rcS (i v o : Int) (bs : List TM) (st : List IN) (xs : List Int) (ss : List BS3) (inp : List Int) : List BS3 := bif rcCode i v o bs st xs ss inp == 0 then (rnM o bs st inp xs ss).2.2.2.2 else []
def rcNd (bs : List TM) (xs inp : List Int) : Bool := tsOk bs && (leN xs.length 1048576 && leN inp.length 1048576)

theorem k13w (i v o : Int) (bs : List TM) (st : List IN) (xs : List Int) (ss : List BS3) (inp : List Int) : (codeB i v o bs st = false ∧ rcCode i v o bs st xs ss inp = 1) ∨ (codeB i v o bs st = true ∧ (suitB v bs xs ss && bitsB i inp) = false ∧ rcCode i v o bs st xs ss inp = 2) ∨
    (exNd i v o bs st inp xs ss = true ∧ codeB i v o bs st = true ∧ (suitB v bs xs ss = true ∧ bitsB i inp = true) ∧ rcCode i v o bs st xs ss inp = 0) := by
  simp only [rcCode, exNd]
  cases codeB i v o bs st with
  | false => exact .inl ⟨rfl, rfl⟩
  | true =>
    cases suitB v bs xs ss with
    | false => exact .inr (.inl ⟨rfl, rfl, rfl⟩)
    | true =>
      cases bitsB i inp with
      | false => exact .inr (.inl ⟨rfl, rfl, rfl⟩)
      | true => exact .inr (.inr ⟨rfl, rfl, ⟨rfl, rfl⟩, rfl⟩)

theorem specRC (i v o : Int) (bs : List TM) (st : List IN) (xs : List Int) (ss : List BS3) (inp : List Int) (h : rcNd bs xs inp = true) :
    ku3 i v o bs st xs ss inp = rcCode i v o bs st xs ss inp ∧ kus i v o bs st xs ss inp = rcO i v o bs st xs ss inp ∧ kux i v o bs st xs ss inp = rcV i v o bs st xs ss inp ∧
    kup i v o bs st xs ss inp = rcS i v o bs st xs ss inp ∧ kuf i v o bs st xs ss inp = true := by
  simp only [rcNd, Bool.and_eq_true] at h
  obtain ⟨hT, hx, hi⟩ := h
  have hx := leN_iff.1 hx
  have hi := leN_iff.1 hi
  have t1 : leN xs.length 9223372036854775807 = true := leN_t (by omega)
  have t2 : leN bs.length 9223372036854775807 = true := leN_t (k13e.1 hT).1
  have t3 : leN inp.length 9223372036854775807 = true := leN_t (by omega)
  simp only [ku3, kus, kux, kup, kuf, kla, rcO, rcV, rcS, hT, t1, t2, t3, allT]
  rcases k13w i v o bs st xs ss inp with ⟨h1, h2⟩ | ⟨h1, h3, h2⟩ | ⟨h1, h3, ⟨h4, h5⟩, h2⟩
  · simp [h1, h2]
  · rw [h1, h2]
    cases hs : suitB v bs xs ss with
    | false => simp
    | true => rw [hs, Bool.true_and] at h3; simp [h3]
  · rw [h2, h3, h4, h5, h1]; simp

theorem implRC (i v o : Int) (bs : List TM) (st : List IN) (xs : List Int) (ss : List BS3) (inp : List Int) (h : rcNd bs xs inp = true) :
    ku2 i v o bs st xs ss inp = rcCode i v o bs st xs ss inp ∧ kub i v o bs st xs ss inp = rcO i v o bs st xs ss inp ∧ kum i v o bs st xs ss inp = rcV i v o bs st xs ss inp ∧
    kuj i v o bs st xs ss inp = rcS i v o bs st xs ss inp ∧ kty i v o bs st xs ss inp = true := by
  simp only [rcNd, Bool.and_eq_true] at h
  obtain ⟨hT, hx, hi⟩ := h
  have hx := leN_iff.1 hx
  have hi := leN_iff.1 hi
  have t1 : leN xs.length 9223372036854775807 = true := leN_t (by omega)
  have t2 : leN bs.length 9223372036854775807 = true := leN_t (k13e.1 hT).1
  have t3 : leN inp.length 9223372036854775807 = true := leN_t (by omega)
  have hm : mcNd bs xs [inp] = true := by
    simp only [mcNd, listNd, t1, t2, t3, List.all_cons, List.all_nil, Bool.and_true, Bool.true_and, List.length_singleton]; rfl
  obtain ⟨m0, m1⟩ := memCode i v o bs st xs ss [inp] hm
  have e : mcCode i v o bs st xs ss [inp] = rcCode i v o bs st xs ss inp := by simp only [mcCode, rcCode, List.all_cons, List.all_nil, Bool.and_true]
  rw [e] at m0
  simp only [ku2, kub, kum, kuj, kty, kt5, kl9, m0, m1, rcO, rcV, rcS, allT]
  rcases k13w i v o bs st xs ss inp with ⟨h1, h2⟩ | ⟨h1, h3, h2⟩ | ⟨h1, h3, ⟨h4, h5⟩, h2⟩
  · rw [h2]; simp
  · rw [h2]; simp
  · rw [h2, h1]; simp

def kyk : List SV → List Entry → Option Out
  | [.one ⟨true, [.val (.int .i64 x0), .val (.int .i64 x1), .val (.int .i64 x2), .ref 0, .ref 1]⟩, .one ⟨true, [.ref 2, .ref 3]⟩, .one ⟨false, [.ref 4]⟩], [.row false 178 (.pair (.int .i64) (.pair (.str) (.int .i64))) x3, .row false 150 (.pair (.int .i64) (.int .i64)) x4, .row false 2 (.int .i64) x5, .row false 172 (.pair (.int .i64) (.pair (.int .i64) (.int .i64))) x6, .row false 2 (.int .i64) x7] => some ⟨(.tup [⟨false, [(.ref 5)]⟩, ⟨true, [(.ref 6), (.ref 7)]⟩, ⟨false, [(.val (.int IntKind.i64 (rcCode x0 x1 x2 x3 x4 x5 x6 x7)))]⟩]), [(.row false 178 (CTy.pair (CTy.int IntKind.i64) (CTy.pair CTy.str (CTy.int IntKind.i64))) x3), (.row false 150 (CTy.pair (CTy.int IntKind.i64) (CTy.int IntKind.i64)) x4), (.row false 2 (CTy.int IntKind.i64) x5), (.row false 172 (CTy.pair (CTy.int IntKind.i64) (CTy.pair (CTy.int IntKind.i64) (CTy.int IntKind.i64))) x6), (.row false 2 (CTy.int IntKind.i64) x7)], [(.row true 2 (CTy.int IntKind.i64) (rcO x0 x1 x2 x3 x4 x5 x6 x7)), (.row true 2 (CTy.int IntKind.i64) (rcV x0 x1 x2 x3 x4 x5 x6 x7)), (.row true 172 (CTy.pair (CTy.int IntKind.i64) (CTy.pair (CTy.int IntKind.i64) (CTy.int IntKind.i64))) (rcS x0 x1 x2 x3 x4 x5 x6 x7))], [rcNd x3 x5 x7]⟩
  | _, _ => none

def ku9 : PF Tryz.prog := PF.alt k13c kyk (by
  intro args es o h hnd; unfold kyk at h; split at h
  · rename_i x0 x1 x2 x3 x4 x5 x6 x7
    cases h
    have hnd := nd_fst hnd
    have hh := implRC x0 x1 x2 x3 x4 x5 x6 x7 hnd
    obtain ⟨e0, e1, e2, e3, en⟩ := hh
    exact altok rfl (nd_one en) (by simp only [e0] <;> rfl) rfl (by simp only [e1, e2, e3] <;> rfl)
  · cases h)

def kzd : List SV → List Entry → Option Out
  | [.one ⟨true, [.val (.int .i64 x0), .val (.int .i64 x1), .val (.int .i64 x2), .ref 0, .ref 1]⟩, .one ⟨true, [.ref 2, .ref 3]⟩, .one ⟨false, [.ref 4]⟩], [.row false 178 (.pair (.int .i64) (.pair (.str) (.int .i64))) x3, .row false 150 (.pair (.int .i64) (.int .i64)) x4, .row false 2 (.int .i64) x5, .row false 172 (.pair (.int .i64) (.pair (.int .i64) (.int .i64))) x6, .row false 2 (.int .i64) x7] => some ⟨(.tup [⟨false, [(.ref 5)]⟩, ⟨true, [(.ref 6), (.ref 7)]⟩, ⟨false, [(.val (.int IntKind.i64 (rcCode x0 x1 x2 x3 x4 x5 x6 x7)))]⟩]), [(.row false 178 (CTy.pair (CTy.int IntKind.i64) (CTy.pair CTy.str (CTy.int IntKind.i64))) x3), (.row false 150 (CTy.pair (CTy.int IntKind.i64) (CTy.int IntKind.i64)) x4), (.row false 2 (CTy.int IntKind.i64) x5), (.row false 172 (CTy.pair (CTy.int IntKind.i64) (CTy.pair (CTy.int IntKind.i64) (CTy.int IntKind.i64))) x6), (.row false 2 (CTy.int IntKind.i64) x7)], [(.row false 2 (CTy.int IntKind.i64) (rcO x0 x1 x2 x3 x4 x5 x6 x7)), (.row false 2 (CTy.int IntKind.i64) (rcV x0 x1 x2 x3 x4 x5 x6 x7)), (.row false 172 (CTy.pair (CTy.int IntKind.i64) (CTy.pair (CTy.int IntKind.i64) (CTy.int IntKind.i64))) (rcS x0 x1 x2 x3 x4 x5 x6 x7))], [rcNd x3 x5 x7]⟩
  | _, _ => none

def ku7 : PF Tryz.prog := PF.alt k139 kzd (by
  intro args es o h hnd; unfold kzd at h; split at h
  · rename_i x0 x1 x2 x3 x4 x5 x6 x7
    cases h
    have hnd := nd_fst hnd
    have hh := specRC x0 x1 x2 x3 x4 x5 x6 x7 hnd
    obtain ⟨e0, e1, e2, e3, en⟩ := hh
    exact altok rfl (nd_one en) (by simp only [e0] <;> rfl) rfl (by simp only [e1, e2, e3] <;> rfl)
  · cases h)

end Go.SX

namespace Go.SX
open Go.Proofs
set_option maxRecDepth 100000

def kd0 (x3 : Int) (x4 : List (Int × ByteArray × Int)) (x5 : List (Int × Int)) : Int :=
  bif ltI (szTs x3 x4) (0 : Int) then (-1 : Int)
  else bif ltI (szL (szTs x3 x4) (List.length x5)) (0 : Int) then (-1 : Int) else szL (szTs x3 x4) (List.length x5)

def ksb (x3 : Int) (x4 : List (Int × ByteArray × Int)) (x5 : List (Int × Int)) : Bool :=
  allT
  [leN (List.length x4) (9223372036854775807 : Nat) && (leI (-1 : Int) x3 && leI x3 (1048576 : Int)),
    ltI (szTs x3 x4) (0 : Int) ||
      leN (List.length x5) (9223372036854775807 : Nat) && (leI (-1 : Int) (szTs x3 x4) && leI (szTs x3 x4) (1048576 : Int))]

def k112 : List SV → List Entry → Option Out
  | [.one ⟨true, [.val (.int .i64 _x0), .val (.int .i64 _x1), .val (.int .i64 _x2), .ref 0, .ref 1]⟩, .one ⟨false, [.val (.int .i64 x3)]⟩], [.row false 175 (.pair (.int .i64) (.pair (.str) (.int .i64))) x4, .row false 183 (.pair (.int .i64) (.int .i64)) x5] => some ⟨(.one ⟨false, [(.val (.int IntKind.i64 (kd0 x3 x4 x5)))]⟩), [(.row false 175 (CTy.pair (CTy.int IntKind.i64) (CTy.pair CTy.str (CTy.int IntKind.i64))) x4), (.row false 183 (CTy.pair (CTy.int IntKind.i64) (CTy.int IntKind.i64)) x5)], [], [(ksb x3 x4 x5)]⟩
  | _, _ => none

def kw9 : PF Tryz.prog := PF.ofG Tryz.prog [kuc, PF.lend kuc, PF.fz kuc, kn0, PF.lend kn0, PF.fz kn0] [] hmix 15 Tryz.f15 Tryz.func15 (fun c _ => LOk.nil c) k112 (by
  intro vs es r h; unfold k112 at h; split at h
  · cases h; kernel_rfl
  · cases h)

def knx (x3 : List (Int × ByteArray × Int)) (x4 : List (Int × Int)) : Bool :=
  allT [leN (List.length x3) (1048576 : Nat), leN (List.length x4) (1048576 : Nat)]

def k119 : List SV → List Entry → Option Out
  | [.one ⟨true, [.val (.int .i64 x0), .val (.int .i64 x1), .val (.int .i64 x2), .ref 0, .ref 1]⟩], [.row false 175 (.pair (.int .i64) (.pair (.str) (.int .i64))) x3, .row false 183 (.pair (.int .i64) (.int .i64)) x4] => some ⟨(.one ⟨true, [(.val (.int IntKind.i64 x0)), (.val (.int IntKind.i64 x1)), (.val (.int IntKind.i64 x2)), (.ref 2), (.ref 3)]⟩), [(.row false 175 (CTy.pair (CTy.int IntKind.i64) (CTy.pair CTy.str (CTy.int IntKind.i64))) x3), (.row false 183 (CTy.pair (CTy.int IntKind.i64) (CTy.int IntKind.i64)) x4)], [(.row true 178 (CTy.pair (CTy.int IntKind.i64) (CTy.pair CTy.str (CTy.int IntKind.i64))) x3), (.row true 150 (CTy.pair (CTy.int IntKind.i64) (CTy.int IntKind.i64)) x4)], [(knx x3 x4)]⟩
  | _, _ => none

def kw8 : PF Tryz.prog := PF.ofG Tryz.prog [kun, PF.lend kun, PF.fz kun, kn1, PF.lend kn1, PF.fz kn1] [] hmix 18 Tryz.f18 Tryz.func18 (fun c _ => LOk.nil c) k119 (by
  intro vs es r h; unfold k119 at h; split at h
  · cases h; kernel_rfl
  · cases h)

def k2x (x0 : Int) (x1 : Int) (x2 : Int) (x3 : Int) (x4 : Int) (x5 : Int) (x6 : List (Int × ByteArray × Int)) (x7 : List (Int × Int)) (x8 : List (Int × ByteArray × Int)) (x9 : List (Int × Int)) : Bool :=
  bif x0 != x3 then false
  else bif x1 != x4 then false else bif x2 != x5 then false else bif !eqTs x6 x8 then false else bif !eqIs x7 x9 then false else true

def ks7 (x0 : Int) (x1 : Int) (x2 : Int) (x3 : Int) (x4 : Int) (x5 : Int) (x6 : List (Int × ByteArray × Int)) (x7 : List (Int × Int)) (x8 : List (Int × ByteArray × Int)) : Bool :=
  allT
  [x0 != x3 || (x1 != x4 || (x2 != x5 || leN (List.length x6) (9223372036854775807 : Nat))),
    x0 != x3 || (x1 != x4 || (x2 != x5 || (!eqTs x6 x8 || leN (List.length x7) (9223372036854775807 : Nat))))]

def k11a : List SV → List Entry → Option Out
  | [.one ⟨true, [.val (.int .i64 x0), .val (.int .i64 x1), .val (.int .i64 x2), .ref 0, .ref 1]⟩, .one ⟨true, [.val (.int .i64 x3), .val (.int .i64 x4), .val (.int .i64 x5), .ref 2, .ref 3]⟩], [.row false 178 (.pair (.int .i64) (.pair (.str) (.int .i64))) x6, .row false 150 (.pair (.int .i64) (.int .i64)) x7, .row false 178 (.pair (.int .i64) (.pair (.str) (.int .i64))) x8, .row false 150 (.pair (.int .i64) (.int .i64)) x9] => some ⟨(.one ⟨false, [(.val (.bool (k2x x0 x1 x2 x3 x4 x5 x6 x7 x8 x9)))]⟩), [(.row false 178 (CTy.pair (CTy.int IntKind.i64) (CTy.pair CTy.str (CTy.int IntKind.i64))) x6), (.row false 150 (CTy.pair (CTy.int IntKind.i64) (CTy.int IntKind.i64)) x7), (.row false 178 (CTy.pair (CTy.int IntKind.i64) (CTy.pair CTy.str (CTy.int IntKind.i64))) x8), (.row false 150 (CTy.pair (CTy.int IntKind.i64) (CTy.int IntKind.i64)) x9)], [], [(ks7 x0 x1 x2 x3 x4 x5 x6 x7 x8)]⟩
  | _, _ => none

def kwb : PF Tryz.prog := PF.ofG Tryz.prog [ku6, PF.lend ku6, PF.fz ku6, kms, PF.lend kms, PF.fz kms] [] hmix 22 Tryz.f22 Tryz.func22 (fun c _ => LOk.nil c) k11a (by
  intro vs es r h; unfold k11a at h; split at h
  · cases h; kernel_rfl
  · cases h)

def kmf (x3 : Int) (x4 : List (Int × ByteArray × Int)) : Int :=
  x3 + (3 : Int) * (↑(List.length x4) : Int)

def ke6 (x3 : Int) (x4 : List (Int × ByteArray × Int)) (x5 : List (Int × Int)) : Int :=
  kmf x3 x4 + (2 : Int) * (↑(List.length x5) : Int)

def k12e (x3 : Int) (x4 : List (Int × ByteArray × Int)) : List (Int × (ByteArray × Int)) :=
  kr8 x3 x4

def k12n (x3 : Int) (x4 : List (Int × ByteArray × Int)) (x5 : List (Int × Int)) : List (Int × Int) :=
  klm (kmf x3 x4) x5

def kpp (x3 : Int) (x4 : List (Int × ByteArray × Int)) (x5 : List (Int × Int)) : Bool :=
  allT
  [mkOk3 (3 : Nat) x3 (List.length x4) && leN (List.length x4) (9223372036854775807 : Nat),
    mkOk3 (2 : Nat) (kmf x3 x4) (List.length x5) && leN (List.length x5) (9223372036854775807 : Nat)]

def kxb : List SV → List Entry → Option Out
  | [.one ⟨true, [.val (.int .i64 _x0), .val (.int .i64 _x1), .val (.int .i64 _x2), .ref 0, .ref 1]⟩, .one ⟨false, [.val (.int .i64 x3)]⟩], [.row true 178 (.pair (.int .i64) (.pair (.str) (.int .i64))) x4, .row true 150 (.pair (.int .i64) (.int .i64)) x5] => some ⟨(.one ⟨false, [(.val (.int IntKind.i64 (ke6 x3 x4 x5)))]⟩), [(.row true 178 (CTy.pair (CTy.int IntKind.i64) (CTy.pair CTy.str (CTy.int IntKind.i64))) (k12e x3 x4)), (.row true 150 (CTy.pair (CTy.int IntKind.i64) (CTy.int IntKind.i64)) (k12n x3 x4 x5))], [], [(kpp x3 x4 x5)]⟩
  | _, _ => none

def ksl : PF Tryz.prog := PF.ofG Tryz.prog [kr9, PF.lend kr9, PF.fz kr9, kln, PF.lend kln, PF.fz kln] [] hmix 23 Tryz.f23 Tryz.func23 (fun c _ => LOk.nil c) kxb (by
  intro vs es r h; unfold kxb at h; split at h
  · cases h; kernel_rfl
  · cases h)

def kfb (x0 : Int) (x1 : List Int) (x2 : List (Int × Int × Int)) : Int :=
  bif ltI (szV x0 x1) (0 : Int) then (-1 : Int)
  else bif ltI (szL (szV x0 x1) (List.length x2)) (0 : Int) then (-1 : Int) else szL (szV x0 x1) (List.length x2)

def kpt (x0 : Int) (x1 : List Int) (x2 : List (Int × Int × Int)) : Bool :=
  allT
  [leN (List.length x1) (9223372036854775807 : Nat) && (leI (-1 : Int) x0 && leI x0 (1048576 : Int)),
    ltI (szV x0 x1) (0 : Int) || leN (List.length x2) (9223372036854775807 : Nat) && (leI (-1 : Int) (szV x0 x1) && leI (szV x0 x1) (1048576 : Int))]

def kxm : List SV → List Entry → Option Out
  | [.one ⟨true, [.ref 0, .ref 1]⟩, .one ⟨false, [.val (.int .i64 x0)]⟩], [.row false 2 (.int .i64) x1, .row false 194 (.pair (.int .i64) (.pair (.int .i64) (.int .i64))) x2] => some ⟨(.one ⟨false, [(.val (.int IntKind.i64 (kfb x0 x1 x2)))]⟩), [(.row false 2 (CTy.int IntKind.i64) x1), (.row false 194 (CTy.pair (CTy.int IntKind.i64) (CTy.pair (CTy.int IntKind.i64) (CTy.int IntKind.i64))) x2)], [], [(kpt x0 x1 x2)]⟩
  | _, _ => none

def kss : PF Tryz.prog := PF.ofG Tryz.prog [knw, PF.lend knw, PF.fz knw, kt6, PF.lend kt6, PF.fz kt6] [] hmix 26 Tryz.f26 Tryz.func26 (fun c _ => LOk.nil c) kxm (by
  intro vs es r h; unfold kxm at h; split at h
  · cases h; kernel_rfl
  · cases h)

def kld (x0 : List Int) (x1 : List (Int × Int × Int)) : Bool :=
  allT [leN (List.length x0) (1048576 : Nat), leN (List.length x1) (1048576 : Nat)]

def kxs : List SV → List Entry → Option Out
  | [.one ⟨true, [.ref 0, .ref 1]⟩], [.row false 2 (.int .i64) x0, .row false 194 (.pair (.int .i64) (.pair (.int .i64) (.int .i64))) x1] => some ⟨(.one ⟨true, [(.ref 2), (.ref 3)]⟩), [(.row false 2 (CTy.int IntKind.i64) x0), (.row false 194 (CTy.pair (CTy.int IntKind.i64) (CTy.pair (CTy.int IntKind.i64) (CTy.int IntKind.i64))) x1)], [(.row true 2 (CTy.int IntKind.i64) x0), (.row true 172 (CTy.pair (CTy.int IntKind.i64) (CTy.pair (CTy.int IntKind.i64) (CTy.int IntKind.i64))) x1)], [(kld x0 x1)]⟩
  | _, _ => none

def ksn : PF Tryz.prog := PF.ofG Tryz.prog [kns, PF.lend kns, PF.fz kns, kl3, PF.lend kl3, PF.fz kl3] [] hmix 28 Tryz.f28 Tryz.func28 (fun c _ => LOk.nil c) kxs (by
  intro vs es r h; unfold kxs at h; split at h
  · cases h; kernel_rfl
  · cases h)

def k23 (x0 : List Int) (x1 : List (Int × Int × Int)) (x2 : List Int) (x3 : List (Int × Int × Int)) : Bool :=
  bif !eqL x0 x2 then false else bif !eqBs x1 x3 then false else true

def kfa (x0 : List Int) (x1 : List (Int × Int × Int)) (x2 : List Int) : Bool :=
  allT [leN (List.length x0) (9223372036854775807 : Nat), !eqL x0 x2 || leN (List.length x1) (9223372036854775807 : Nat)]

def kxq : List SV → List Entry → Option Out
  | [.one ⟨true, [.ref 0, .ref 1]⟩, .one ⟨true, [.ref 2, .ref 3]⟩], [.row false 2 (.int .i64) x0, .row false 172 (.pair (.int .i64) (.pair (.int .i64) (.int .i64))) x1, .row false 2 (.int .i64) x2, .row false 172 (.pair (.int .i64) (.pair (.int .i64) (.int .i64))) x3] => some ⟨(.one ⟨false, [(.val (.bool (k23 x0 x1 x2 x3)))]⟩), [(.row false 2 (CTy.int IntKind.i64) x0), (.row false 172 (CTy.pair (CTy.int IntKind.i64) (CTy.pair (CTy.int IntKind.i64) (CTy.int IntKind.i64))) x1), (.row false 2 (CTy.int IntKind.i64) x2), (.row false 172 (CTy.pair (CTy.int IntKind.i64) (CTy.pair (CTy.int IntKind.i64) (CTy.int IntKind.i64))) x3)], [], [(kfa x0 x1 x2)]⟩
  | _, _ => none

def kt9 : PF Tryz.prog := PF.ofG Tryz.prog [knt, PF.lend knt, PF.fz knt, kl6, PF.lend kl6, PF.fz kl6] [] hmix 32 Tryz.f32 Tryz.func32 (fun c _ => LOk.nil c) kxq (by
  intro vs es r h; unfold kxq at h; split at h
  · cases h; kernel_rfl
  · cases h)

def k70 (x0 : Int) (x1 : List Int) : Int :=
  x0 + (↑(List.length x1) : Int)

def k5c (x0 : Int) (x1 : List Int) (x2 : List (Int × Int × Int)) : Int :=
  k70 x0 x1 + (3 : Int) * (↑(List.length x2) : Int)

def kh0 (x0 : Int) (x1 : List Int) : List Int :=
  upFrom x0 (List.length x1)

def kh2 (x0 : Int) (x1 : List Int) (x2 : List (Int × Int × Int)) : List (Int × (Int × Int)) :=
  upG (3 : Nat) mkB (k70 x0 x1) (List.length x2)

def kew (x0 : Int) (x1 : List Int) (x2 : List (Int × Int × Int)) : Bool :=
  allT [mkOk x0 (List.length x1), mkOk3 (3 : Nat) (k70 x0 x1) (List.length x2) && leN (List.length x2) (9223372036854775807 : Nat)]

def kv6 : List SV → List Entry → Option Out
  | [.one ⟨true, [.ref 0, .ref 1]⟩, .one ⟨false, [.val (.int .i64 x0)]⟩], [.row true 2 (.int .i64) x1, .row true 172 (.pair (.int .i64) (.pair (.int .i64) (.int .i64))) x2] => some ⟨(.one ⟨false, [(.val (.int IntKind.i64 (k5c x0 x1 x2)))]⟩), [(.row true 2 (CTy.int IntKind.i64) (kh0 x0 x1)), (.row true 172 (CTy.pair (CTy.int IntKind.i64) (CTy.pair (CTy.int IntKind.i64) (CTy.int IntKind.i64))) (kh2 x0 x1 x2))], [], [(kew x0 x1 x2)]⟩
  | _, _ => none

def kqf : PF Tryz.prog := PF.ofG Tryz.prog [km3, PF.lend km3, PF.fz km3, kh1, PF.lend kh1, PF.fz kh1] [] hmix 33 Tryz.f33 Tryz.func33 (fun c _ => LOk.nil c) kv6 (by
  intro vs es r h; unfold kv6 at h; split at h
  · cases h; kernel_rfl
  · cases h)

def knl (x0 : Int) (x1 : List Int) (x2 : List (Int × Int × Int)) : Int :=
  bif ltI (heldV x0 x1) (0 : Int) then (-1 : Int) else bif ltI (heldB (heldV x0 x1) x2) (0 : Int) then (-1 : Int) else heldB (heldV x0 x1) x2

def knm (x0 : Int) (x1 : List Int) (x2 : List (Int × Int × Int)) : Bool :=
  allT [leN (List.length x1) (9223372036854775807 : Nat), ltI (heldV x0 x1) (0 : Int) || leN (List.length x2) (9223372036854775807 : Nat)]

def kv5 : List SV → List Entry → Option Out
  | [.one ⟨true, [.ref 0, .ref 1]⟩, .one ⟨false, [.val (.int .i64 x0)]⟩], [.row false 2 (.int .i64) x1, .row false 172 (.pair (.int .i64) (.pair (.int .i64) (.int .i64))) x2] => some ⟨(.one ⟨false, [(.val (.int IntKind.i64 (knl x0 x1 x2)))]⟩), [(.row false 2 (CTy.int IntKind.i64) x1), (.row false 172 (CTy.pair (CTy.int IntKind.i64) (CTy.pair (CTy.int IntKind.i64) (CTy.int IntKind.i64))) x2)], [], [(knm x0 x1 x2)]⟩
  | _, _ => none

def kq5 : PF Tryz.prog := PF.ofG Tryz.prog [kme, PF.lend kme, PF.fz kme, kgx, PF.lend kgx, PF.fz kgx] [] hmix 36 Tryz.f36 Tryz.func36 (fun c _ => LOk.nil c) kv5 (by
  intro vs es r h; unfold kv5 at h; split at h
  · cases h; kernel_rfl
  · cases h)

def kn (x3 : List (Int × ByteArray × Int)) (x4 : List (Int × Int)) : Bool :=
  ltI (kd0 (1048576 : Int) x3 x4) (0 : Int)

def kq (x3 : List (Int × ByteArray × Int)) (x4 : List (Int × Int)) (x5 : List Int) (x6 : List (Int × Int × Int)) : Bool :=
  ltI (kfb (kd0 (1048576 : Int) x3 x4) x5 x6) (0 : Int)

def k9o (x0 : Int) (x1 : Int) (x2 : Int) (x3 : List (Int × ByteArray × Int)) (x4 : List (Int × Int)) (x5 : List Int) (x6 : List (Int × Int × Int)) (x7 : List Int) : Bool :=
  !eqL (rcO x0 x1 x2 x3 x4 x5 x6 x7) (rcO x0 x1 x2 x3 x4 x5 x6 x7)

def khr (x0 : Int) (x1 : Int) (x2 : Int) (x3 : List (Int × ByteArray × Int)) (x4 : List (Int × Int)) (x5 : List Int) (x6 : List (Int × Int × Int)) (x7 : List Int) : Bool :=
  rcCode x0 x1 x2 x3 x4 x5 x6 x7 != rcCode x0 x1 x2 x3 x4 x5 x6 x7

def ky (x0 : Int) (x1 : Int) (x2 : Int) (x3 : List (Int × ByteArray × Int)) (x4 : List (Int × Int)) (x5 : List Int) (x6 : List (Int × Int × Int)) (x7 : List Int) : Bool :=
  bif
    bif k9o x0 x1 x2 x3 x4 x5 x6 x7 then true
    else !k23 (rcV x0 x1 x2 x3 x4 x5 x6 x7) (rcS x0 x1 x2 x3 x4 x5 x6 x7) (rcV x0 x1 x2 x3 x4 x5 x6 x7) (rcS x0 x1 x2 x3 x4 x5 x6 x7) then
  true
  else khr x0 x1 x2 x3 x4 x5 x6 x7

def k9a (x3 : List (Int × ByteArray × Int)) (x4 : List (Int × Int)) (x5 : List Int) (x6 : List (Int × Int × Int)) (x7 : List Int) : Bool :=
  ltI (k5c (ke6 (1 : Int) x3 x4) x5 x6 + (↑(List.length x7) : Int)) (0 : Int)

def kc4 (x0 : Int) (x1 : Int) (x2 : Int) (x3 : List (Int × ByteArray × Int)) (x4 : List (Int × Int)) (x5 : List Int) (x6 : List (Int × Int × Int)) (x7 : List Int) : Bool :=
  bif k9a x3 x4 x5 x6 x7 then true else k9o x0 x1 x2 x3 x4 x5 x6 x7

def kbv (x0 : Int) (x1 : Int) (x2 : Int) (x3 : List (Int × ByteArray × Int)) (x4 : List (Int × Int)) (x5 : List Int) (x6 : List (Int × Int × Int)) (x7 : List Int) : List Int :=
  bif !k9o x0 x1 x2 x3 x4 x5 x6 x7 && true then rcV x0 x1 x2 x3 x4 x5 x6 x7 else rcV x0 x1 x2 x3 x4 x5 x6 x7

def kc3 (x0 : Int) (x1 : Int) (x2 : Int) (x3 : List (Int × ByteArray × Int)) (x4 : List (Int × Int)) (x5 : List Int) (x6 : List (Int × Int × Int)) (x7 : List Int) : List (Int × Int × Int) :=
  bif !k9o x0 x1 x2 x3 x4 x5 x6 x7 && true then rcS x0 x1 x2 x3 x4 x5 x6 x7 else rcS x0 x1 x2 x3 x4 x5 x6 x7

def k2b (x0 : Int) (x1 : Int) (x2 : Int) (x3 : List (Int × ByteArray × Int)) (x4 : List (Int × Int)) (x5 : List Int) (x6 : List (Int × Int × Int)) (x7 : List Int) : Bool :=
  bif
    bif kc4 x0 x1 x2 x3 x4 x5 x6 x7 then true
    else
      !k23 (kbv x0 x1 x2 x3 x4 x5 x6 x7) (kc3 x0 x1 x2 x3 x4 x5 x6 x7) (rcV x0 x1 x2 x3 x4 x5 x6 x7)
          (rcS x0 x1 x2 x3 x4 x5 x6 x7) then
  true
  else khr x0 x1 x2 x3 x4 x5 x6 x7

def kgo (x0 : Int) (x1 : Int) (x2 : Int) (x3 : List (Int × ByteArray × Int)) (x4 : List (Int × Int)) (x5 : List Int) (x6 : List (Int × Int × Int)) (x7 : List Int) : List Int :=
  upFrom (1 : Int) (List.length (bif !k9a x3 x4 x5 x6 x7 && true then rcO x0 x1 x2 x3 x4 x5 x6 x7 else rcO x0 x1 x2 x3 x4 x5 x6 x7))

def kda (x0 : Int) (x1 : Int) (x2 : Int) (x3 : List (Int × ByteArray × Int)) (x4 : List (Int × Int)) (x5 : List Int) (x6 : List (Int × Int × Int)) (x7 : List Int) : Int :=
  heldV (1 : Int) (kgo x0 x1 x2 x3 x4 x5 x6 x7)

def k2j (x0 : Int) (x1 : Int) (x2 : Int) (x3 : List (Int × ByteArray × Int)) (x4 : List (Int × Int)) (x5 : List Int) (x6 : List (Int × Int × Int)) (x7 : List Int) : Bool :=
  ltI (kda x0 x1 x2 x3 x4 x5 x6 x7) (0 : Int)

def kam (x0 : Int) (x1 : Int) (x2 : Int) (x3 : List (Int × ByteArray × Int)) (x4 : List (Int × Int)) (x5 : List Int) (x6 : List (Int × Int × Int)) (x7 : List Int) : Int :=
  (1 : Int) +
  (↑(List.length (bif !k9a x3 x4 x5 x6 x7 && true then rcO x0 x1 x2 x3 x4 x5 x6 x7 else rcO x0 x1 x2 x3 x4 x5 x6 x7)) : Int)

def kaq (x0 : Int) (x1 : Int) (x2 : Int) (x3 : List (Int × ByteArray × Int)) (x4 : List (Int × Int)) (x5 : List Int) (x6 : List (Int × Int × Int)) (x7 : List Int) : List Int :=
  bif !kc4 x0 x1 x2 x3 x4 x5 x6 x7 && true then kbv x0 x1 x2 x3 x4 x5 x6 x7
  else kbv x0 x1 x2 x3 x4 x5 x6 x7

def kgp (x0 : Int) (x1 : Int) (x2 : Int) (x3 : List (Int × ByteArray × Int)) (x4 : List (Int × Int)) (x5 : List Int) (x6 : List (Int × Int × Int)) (x7 : List Int) : List Int :=
  kh0 (kam x0 x1 x2 x3 x4 x5 x6 x7) (kaq x0 x1 x2 x3 x4 x5 x6 x7)

def kdc (x0 : Int) (x1 : Int) (x2 : Int) (x3 : List (Int × ByteArray × Int)) (x4 : List (Int × Int)) (x5 : List Int) (x6 : List (Int × Int × Int)) (x7 : List Int) : List (Int × Int × Int) :=
  bif !kc4 x0 x1 x2 x3 x4 x5 x6 x7 && true then kc3 x0 x1 x2 x3 x4 x5 x6 x7
  else kc3 x0 x1 x2 x3 x4 x5 x6 x7

def kgq (x0 : Int) (x1 : Int) (x2 : Int) (x3 : List (Int × ByteArray × Int)) (x4 : List (Int × Int)) (x5 : List Int) (x6 : List (Int × Int × Int)) (x7 : List Int) : List (Int × Int × Int) :=
  kh2 (kam x0 x1 x2 x3 x4 x5 x6 x7) (kaq x0 x1 x2 x3 x4 x5 x6 x7)
  (kdc x0 x1 x2 x3 x4 x5 x6 x7)

def kgn (x0 : Int) (x1 : Int) (x2 : Int) (x3 : List (Int × ByteArray × Int)) (x4 : List (Int × Int)) (x5 : List Int) (x6 : List (Int × Int × Int)) (x7 : List Int) : Int :=
  knl (kda x0 x1 x2 x3 x4 x5 x6 x7) (kgp x0 x1 x2 x3 x4 x5 x6 x7)
  (kgq x0 x1 x2 x3 x4 x5 x6 x7)

def k2r (x0 : Int) (x1 : Int) (x2 : Int) (x3 : List (Int × ByteArray × Int)) (x4 : List (Int × Int)) (x5 : List Int) (x6 : List (Int × Int × Int)) (x7 : List Int) : Bool :=
  ltI (kgn x0 x1 x2 x3 x4 x5 x6 x7) (0 : Int)

def k2q (x0 : Int) (x1 : Int) (x2 : Int) (x3 : List (Int × ByteArray × Int)) (x4 : List (Int × Int)) (x5 : List Int) (x6 : List (Int × Int × Int)) (x7 : List Int) : Bool :=
  kgn x0 x1 x2 x3 x4 x5 x6 x7 !=
  k5c (kam x0 x1 x2 x3 x4 x5 x6 x7) (kaq x0 x1 x2 x3 x4 x5 x6 x7)
    (kdc x0 x1 x2 x3 x4 x5 x6 x7)

def kao (x3 : List (Int × ByteArray × Int)) (x4 : List (Int × Int)) (x5 : List Int) (x6 : List (Int × Int × Int)) (x7 : List Int) : Bool :=
  ltI (1048576 : Int) (↑(List.length x7) : Int) || (kn x3 x4 || (kq x3 x4 x5 x6 || knx x3 x4))

def kai (x3 : List (Int × ByteArray × Int)) (x4 : List (Int × Int)) (x5 : List Int) (x6 : List (Int × Int × Int)) (x7 : List Int) : Bool :=
  ltI (1048576 : Int) (↑(List.length x7) : Int) || (kn x3 x4 || (kq x3 x4 x5 x6 || kld x5 x6))

def kaj (x3 : List (Int × ByteArray × Int)) (x4 : List (Int × Int)) (x5 : List Int) (x6 : List (Int × Int × Int)) (x7 : List Int) : Bool :=
  ltI (1048576 : Int) (↑(List.length x7) : Int) ||
  (kn x3 x4 || (kq x3 x4 x5 x6 || leN (List.length x7) (1048576 : Nat)))

def kak (x3 : List (Int × ByteArray × Int)) (x4 : List (Int × Int)) (x5 : List Int) (x6 : List (Int × Int × Int)) (x7 : List Int) : Bool :=
  ltI (1048576 : Int) (↑(List.length x7) : Int) || (kn x3 x4 || (kq x3 x4 x5 x6 || rcNd x3 x5 x7))

def kdh (x0 : Int) (x1 : Int) (x2 : Int) (x3 : List (Int × ByteArray × Int)) (x4 : List (Int × Int)) (x5 : List Int) (x6 : List (Int × Int × Int)) (x7 : List Int) : Bool :=
  leN (List.length (rcO x0 x1 x2 x3 x4 x5 x6 x7)) (9223372036854775807 : Nat)

def kgm (x0 : Int) (x1 : Int) (x2 : Int) (x3 : List (Int × ByteArray × Int)) (x4 : List (Int × Int)) (x5 : List Int) (x6 : List (Int × Int × Int)) (x7 : List Int) : Bool :=
  !(!k9o x0 x1 x2 x3 x4 x5 x6 x7 && true) ||
  kfa (rcV x0 x1 x2 x3 x4 x5 x6 x7) (rcS x0 x1 x2 x3 x4 x5 x6 x7) (rcV x0 x1 x2 x3 x4 x5 x6 x7)

def kgr (x0 : Int) (x1 : Int) (x2 : Int) (x3 : List (Int × ByteArray × Int)) (x4 : List (Int × Int)) (x5 : List Int) (x6 : List (Int × Int × Int)) (x7 : List Int) : Bool :=
  leN (List.length (kgo x0 x1 x2 x3 x4 x5 x6 x7)) (9223372036854775807 : Nat)

def kgs (x0 : Int) (x1 : Int) (x2 : Int) (x3 : List (Int × ByteArray × Int)) (x4 : List (Int × Int)) (x5 : List Int) (x6 : List (Int × Int × Int)) (x7 : List Int) : Bool :=
  k2j x0 x1 x2 x3 x4 x5 x6 x7 ||
  knm (kda x0 x1 x2 x3 x4 x5 x6 x7) (kgp x0 x1 x2 x3 x4 x5 x6 x7)
    (kgq x0 x1 x2 x3 x4 x5 x6 x7)

def kcx (x0 : Int) (x1 : Int) (x2 : Int) (x3 : List (Int × ByteArray × Int)) (x4 : List (Int × Int)) (x5 : List Int) (x6 : List (Int × Int × Int)) (x7 : List Int) : Bool :=
  bif ltI (1048576 : Int) (↑(List.length x7) : Int) then true
  else
  bif kn x3 x4 then true
  else
    bif kq x3 x4 x5 x6 then true
    else
      bif ky x0 x1 x2 x3 x4 x5 x6 x7 then false
      else
        bif !k2x x0 x1 x2 x0 x1 x2 x3 x4 x3 x4 then false
        else
          bif !k23 x5 x6 x5 x6 then false
          else
            bif !eqL x7 x7 then false
            else
              bif k2b x0 x1 x2 x3 x4 x5 x6 x7 then false
              else
                bif k2j x0 x1 x2 x3 x4 x5 x6 x7 then false
                else
                  bif k2r x0 x1 x2 x3 x4 x5 x6 x7 then false
                  else
                    bif k2q x0 x1 x2 x3 x4 x5 x6 x7 then false
                    else
                      bif ky x0 x1 x2 x3 x4 x5 x6 x7 then false
                      else
                        bif k2j x0 x1 x2 x3 x4 x5 x6 x7 then false
                        else
                          bif k2r x0 x1 x2 x3 x4 x5 x6 x7 then false
                          else bif k2q x0 x1 x2 x3 x4 x5 x6 x7 then false else true

def kcy (x0 : Int) (x1 : Int) (x2 : Int) (x3 : List (Int × ByteArray × Int)) (x4 : List (Int × Int)) (x5 : List Int) (x6 : List (Int × Int × Int)) (x7 : List Int) : Bool :=
  allT
  [ltI (1048576 : Int) (↑(List.length x7) : Int) || ksb (1048576 : Int) x3 x4,
    ltI (1048576 : Int) (↑(List.length x7) : Int) || (kn x3 x4 || kpt (kd0 (1048576 : Int) x3 x4) x5 x6),
    kao x3 x4 x5 x6 x7, kai x3 x4 x5 x6 x7, kaj x3 x4 x5 x6 x7,
    kak x3 x4 x5 x6 x7, kao x3 x4 x5 x6 x7, kai x3 x4 x5 x6 x7,
    kaj x3 x4 x5 x6 x7, kak x3 x4 x5 x6 x7,
    ltI (1048576 : Int) (↑(List.length x7) : Int) ||
      (kn x3 x4 || (kq x3 x4 x5 x6 || kdh x0 x1 x2 x3 x4 x5 x6 x7)),
    ltI (1048576 : Int) (↑(List.length x7) : Int) ||
      (kn x3 x4 || (kq x3 x4 x5 x6 || kgm x0 x1 x2 x3 x4 x5 x6 x7)),
    ltI (1048576 : Int) (↑(List.length x7) : Int) ||
      (kn x3 x4 ||
        (kq x3 x4 x5 x6 || (ky x0 x1 x2 x3 x4 x5 x6 x7 || knx x3 x4))),
    ltI (1048576 : Int) (↑(List.length x7) : Int) ||
      (kn x3 x4 ||
        (kq x3 x4 x5 x6 || (ky x0 x1 x2 x3 x4 x5 x6 x7 || ks7 x0 x1 x2 x0 x1 x2 x3 x4 x3))),
    ltI (1048576 : Int) (↑(List.length x7) : Int) ||
      (kn x3 x4 ||
        (kq x3 x4 x5 x6 ||
          (ky x0 x1 x2 x3 x4 x5 x6 x7 || (!k2x x0 x1 x2 x0 x1 x2 x3 x4 x3 x4 || kld x5 x6)))),
    ltI (1048576 : Int) (↑(List.length x7) : Int) ||
      (kn x3 x4 ||
        (kq x3 x4 x5 x6 ||
          (ky x0 x1 x2 x3 x4 x5 x6 x7 || (!k2x x0 x1 x2 x0 x1 x2 x3 x4 x3 x4 || kfa x5 x6 x5)))),
    ltI (1048576 : Int) (↑(List.length x7) : Int) ||
      (kn x3 x4 ||
        (kq x3 x4 x5 x6 ||
          (ky x0 x1 x2 x3 x4 x5 x6 x7 ||
            (!k2x x0 x1 x2 x0 x1 x2 x3 x4 x3 x4 || (!k23 x5 x6 x5 x6 || leN (List.length x7) (1048576 : Nat)))))),
    ltI (1048576 : Int) (↑(List.length x7) : Int) ||
      (kn x3 x4 ||
        (kq x3 x4 x5 x6 ||
          (ky x0 x1 x2 x3 x4 x5 x6 x7 ||
            (!k2x x0 x1 x2 x0 x1 x2 x3 x4 x3 x4 || (!k23 x5 x6 x5 x6 || leN (List.length x7) (9223372036854775807 : Nat)))))),
    ltI (1048576 : Int) (↑(List.length x7) : Int) ||
      (kn x3 x4 ||
        (kq x3 x4 x5 x6 ||
          (ky x0 x1 x2 x3 x4 x5 x6 x7 ||
            (!k2x x0 x1 x2 x0 x1 x2 x3 x4 x3 x4 || (!k23 x5 x6 x5 x6 || (!eqL x7 x7 || kpp (1 : Int) x3 x4)))))),
    ltI (1048576 : Int) (↑(List.length x7) : Int) ||
      (kn x3 x4 ||
        (kq x3 x4 x5 x6 ||
          (ky x0 x1 x2 x3 x4 x5 x6 x7 ||
            (!k2x x0 x1 x2 x0 x1 x2 x3 x4 x3 x4 ||
              (!k23 x5 x6 x5 x6 || (!eqL x7 x7 || kew (ke6 (1 : Int) x3 x4) x5 x6)))))),
    ltI (1048576 : Int) (↑(List.length x7) : Int) ||
      (kn x3 x4 ||
        (kq x3 x4 x5 x6 ||
          (ky x0 x1 x2 x3 x4 x5 x6 x7 ||
            (!k2x x0 x1 x2 x0 x1 x2 x3 x4 x3 x4 ||
              (!k23 x5 x6 x5 x6 || (!eqL x7 x7 || mkOk (k5c (ke6 (1 : Int) x3 x4) x5 x6) (List.length x7))))))),
    ltI (1048576 : Int) (↑(List.length x7) : Int) ||
      (kn x3 x4 ||
        (kq x3 x4 x5 x6 ||
          (ky x0 x1 x2 x3 x4 x5 x6 x7 ||
            (!k2x x0 x1 x2 x0 x1 x2 x3 x4 x3 x4 ||
              (!k23 x5 x6 x5 x6 ||
                (!eqL x7 x7 || (!(!k9a x3 x4 x5 x6 x7 && true) || kdh x0 x1 x2 x3 x4 x5 x6 x7))))))),
    ltI (1048576 : Int) (↑(List.length x7) : Int) ||
      (kn x3 x4 ||
        (kq x3 x4 x5 x6 ||
          (ky x0 x1 x2 x3 x4 x5 x6 x7 ||
            (!k2x x0 x1 x2 x0 x1 x2 x3 x4 x3 x4 ||
              (!k23 x5 x6 x5 x6 ||
                (!eqL x7 x7 ||
                  (!(!kc4 x0 x1 x2 x3 x4 x5 x6 x7 && true) ||
                    kfa (kbv x0 x1 x2 x3 x4 x5 x6 x7) (kc3 x0 x1 x2 x3 x4 x5 x6 x7)
                      (rcV x0 x1 x2 x3 x4 x5 x6 x7)))))))),
    ltI (1048576 : Int) (↑(List.length x7) : Int) ||
      (kn x3 x4 ||
        (kq x3 x4 x5 x6 ||
          (ky x0 x1 x2 x3 x4 x5 x6 x7 ||
            (!k2x x0 x1 x2 x0 x1 x2 x3 x4 x3 x4 ||
              (!k23 x5 x6 x5 x6 ||
                (!eqL x7 x7 ||
                  (k2b x0 x1 x2 x3 x4 x5 x6 x7 ||
                    mkOk (1 : Int)
                      (List.length
                        (bif !k9a x3 x4 x5 x6 x7 && true then rcO x0 x1 x2 x3 x4 x5 x6 x7
                        else rcO x0 x1 x2 x3 x4 x5 x6 x7))))))))),
    ltI (1048576 : Int) (↑(List.length x7) : Int) ||
      (kn x3 x4 ||
        (kq x3 x4 x5 x6 ||
          (ky x0 x1 x2 x3 x4 x5 x6 x7 ||
            (!k2x x0 x1 x2 x0 x1 x2 x3 x4 x3 x4 ||
              (!k23 x5 x6 x5 x6 ||
                (!eqL x7 x7 ||
                  (k2b x0 x1 x2 x3 x4 x5 x6 x7 ||
                    kew (kam x0 x1 x2 x3 x4 x5 x6 x7) (kaq x0 x1 x2 x3 x4 x5 x6 x7)
                      (kdc x0 x1 x2 x3 x4 x5 x6 x7)))))))),
    ltI (1048576 : Int) (↑(List.length x7) : Int) ||
      (kn x3 x4 ||
        (kq x3 x4 x5 x6 ||
          (ky x0 x1 x2 x3 x4 x5 x6 x7 ||
            (!k2x x0 x1 x2 x0 x1 x2 x3 x4 x3 x4 ||
              (!k23 x5 x6 x5 x6 ||
                (!eqL x7 x7 || (k2b x0 x1 x2 x3 x4 x5 x6 x7 || kgr x0 x1 x2 x3 x4 x5 x6 x7))))))),
    ltI (1048576 : Int) (↑(List.length x7) : Int) ||
      (kn x3 x4 ||
        (kq x3 x4 x5 x6 ||
          (ky x0 x1 x2 x3 x4 x5 x6 x7 ||
            (!k2x x0 x1 x2 x0 x1 x2 x3 x4 x3 x4 ||
              (!k23 x5 x6 x5 x6 ||
                (!eqL x7 x7 || (k2b x0 x1 x2 x3 x4 x5 x6 x7 || kgs x0 x1 x2 x3 x4 x5 x6 x7))))))),
    ltI (1048576 : Int) (↑(List.length x7) : Int) ||
      (kn x3 x4 ||
        (kq x3 x4 x5 x6 ||
          (ky x0 x1 x2 x3 x4 x5 x6 x7 ||
            (!k2x x0 x1 x2 x0 x1 x2 x3 x4 x3 x4 ||
              (!k23 x5 x6 x5 x6 ||
                (!eqL x7 x7 ||
                  (k2b x0 x1 x2 x3 x4 x5 x6 x7 ||
                    (k2j x0 x1 x2 x3 x4 x5 x6 x7 ||
                      (k2r x0 x1 x2 x3 x4 x5 x6 x7 ||
                        (k2q x0 x1 x2 x3 x4 x5 x6 x7 || knx x3 x4)))))))))),
    ltI (1048576 : Int) (↑(List.length x7) : Int) ||
      (kn x3 x4 ||
        (kq x3 x4 x5 x6 ||
          (ky x0 x1 x2 x3 x4 x5 x6 x7 ||
            (!k2x x0 x1 x2 x0 x1 x2 x3 x4 x3 x4 ||
              (!k23 x5 x6 x5 x6 ||
                (!eqL x7 x7 ||
                  (k2b x0 x1 x2 x3 x4 x5 x6 x7 ||
                    (k2j x0 x1 x2 x3 x4 x5 x6 x7 ||
                      (k2r x0 x1 x2 x3 x4 x5 x6 x7 ||
                        (k2q x0 x1 x2 x3 x4 x5 x6 x7 || kld x5 x6)))))))))),
    ltI (1048576 : Int) (↑(List.length x7) : Int) ||
      (kn x3 x4 ||
        (kq x3 x4 x5 x6 ||
          (ky x0 x1 x2 x3 x4 x5 x6 x7 ||
            (!k2x x0 x1 x2 x0 x1 x2 x3 x4 x3 x4 ||
              (!k23 x5 x6 x5 x6 ||
                (!eqL x7 x7 ||
                  (k2b x0 x1 x2 x3 x4 x5 x6 x7 ||
                    (k2j x0 x1 x2 x3 x4 x5 x6 x7 ||
                      (k2r x0 x1 x2 x3 x4 x5 x6 x7 ||
                        (k2q x0 x1 x2 x3 x4 x5 x6 x7 || leN (List.length x7) (1048576 : Nat))))))))))),
    ltI (1048576 : Int) (↑(List.length x7) : Int) ||
      (kn x3 x4 ||
        (kq x3 x4 x5 x6 ||
          (ky x0 x1 x2 x3 x4 x5 x6 x7 ||
            (!k2x x0 x1 x2 x0 x1 x2 x3 x4 x3 x4 ||
              (!k23 x5 x6 x5 x6 ||
                (!eqL x7 x7 ||
                  (k2b x0 x1 x2 x3 x4 x5 x6 x7 ||
                    (k2j x0 x1 x2 x3 x4 x5 x6 x7 ||
                      (k2r x0 x1 x2 x3 x4 x5 x6 x7 || (k2q x0 x1 x2 x3 x4 x5 x6 x7 || rcNd x3 x5 x7)))))))))),
    ltI (1048576 : Int) (↑(List.length x7) : Int) ||
      (kn x3 x4 ||
        (kq x3 x4 x5 x6 ||
          (ky x0 x1 x2 x3 x4 x5 x6 x7 ||
            (!k2x x0 x1 x2 x0 x1 x2 x3 x4 x3 x4 ||
              (!k23 x5 x6 x5 x6 ||
                (!eqL x7 x7 ||
                  (k2b x0 x1 x2 x3 x4 x5 x6 x7 ||
                    (k2j x0 x1 x2 x3 x4 x5 x6 x7 ||
                      (k2r x0 x1 x2 x3 x4 x5 x6 x7 ||
                        (k2q x0 x1 x2 x3 x4 x5 x6 x7 || kdh x0 x1 x2 x3 x4 x5 x6 x7)))))))))),
    ltI (1048576 : Int) (↑(List.length x7) : Int) ||
      (kn x3 x4 ||
        (kq x3 x4 x5 x6 ||
          (ky x0 x1 x2 x3 x4 x5 x6 x7 ||
            (!k2x x0 x1 x2 x0 x1 x2 x3 x4 x3 x4 ||
              (!k23 x5 x6 x5 x6 ||
                (!eqL x7 x7 ||
                  (k2b x0 x1 x2 x3 x4 x5 x6 x7 ||
                    (k2j x0 x1 x2 x3 x4 x5 x6 x7 ||
                      (k2r x0 x1 x2 x3 x4 x5 x6 x7 ||
                        (k2q x0 x1 x2 x3 x4 x5 x6 x7 || kgm x0 x1 x2 x3 x4 x5 x6 x7)))))))))),
    ltI (1048576 : Int) (↑(List.length x7) : Int) ||
      (kn x3 x4 ||
        (kq x3 x4 x5 x6 ||
          (ky x0 x1 x2 x3 x4 x5 x6 x7 ||
            (!k2x x0 x1 x2 x0 x1 x2 x3 x4 x3 x4 ||
              (!k23 x5 x6 x5 x6 ||
                (!eqL x7 x7 ||
                  (k2b x0 x1 x2 x3 x4 x5 x6 x7 ||
                    (k2j x0 x1 x2 x3 x4 x5 x6 x7 ||
                      (k2r x0 x1 x2 x3 x4 x5 x6 x7 ||
                        (k2q x0 x1 x2 x3 x4 x5 x6 x7 ||
                          (ky x0 x1 x2 x3 x4 x5 x6 x7 || kgr x0 x1 x2 x3 x4 x5 x6 x7))))))))))),
    ltI (1048576 : Int) (↑(List.length x7) : Int) ||
      (kn x3 x4 ||
        (kq x3 x4 x5 x6 ||
          (ky x0 x1 x2 x3 x4 x5 x6 x7 ||
            (!k2x x0 x1 x2 x0 x1 x2 x3 x4 x3 x4 ||
              (!k23 x5 x6 x5 x6 ||
                (!eqL x7 x7 ||
                  (k2b x0 x1 x2 x3 x4 x5 x6 x7 ||
                    (k2j x0 x1 x2 x3 x4 x5 x6 x7 ||
                      (k2r x0 x1 x2 x3 x4 x5 x6 x7 ||
                        (k2q x0 x1 x2 x3 x4 x5 x6 x7 ||
                          (ky x0 x1 x2 x3 x4 x5 x6 x7 || kgs x0 x1 x2 x3 x4 x5 x6 x7)))))))))))]

def kqp : List SV → List Entry → Option Out
  | [.one ⟨true, [.val (.int .i64 x0), .val (.int .i64 x1), .val (.int .i64 x2), .ref 0, .ref 1]⟩, .one ⟨true, [.ref 2, .ref 3]⟩, .one ⟨false, [.ref 4]⟩], [.row false 175 (.pair (.int .i64) (.pair (.str) (.int .i64))) x3, .row false 183 (.pair (.int .i64) (.int .i64)) x4, .row false 2 (.int .i64) x5, .row false 194 (.pair (.int .i64) (.pair (.int .i64) (.int .i64))) x6, .row false 2 (.int .i64) x7] => some ⟨(.one ⟨false, [(.val (.bool (kcx x0 x1 x2 x3 x4 x5 x6 x7)))]⟩), [(.row false 175 (CTy.pair (CTy.int IntKind.i64) (CTy.pair CTy.str (CTy.int IntKind.i64))) x3), (.row false 183 (CTy.pair (CTy.int IntKind.i64) (CTy.int IntKind.i64)) x4), (.row false 2 (CTy.int IntKind.i64) x5), (.row false 194 (CTy.pair (CTy.int IntKind.i64) (CTy.pair (CTy.int IntKind.i64) (CTy.int IntKind.i64))) x6), (.row false 2 (CTy.int IntKind.i64) x7)], [], [(kcy x0 x1 x2 x3 x4 x5 x6 x7)]⟩
  | _, _ => none

def kx1 : PF Tryz.prog := PF.ofG Tryz.prog [kw9, PF.lend kw9, PF.fz kw9, kw8, PF.lend kw8, PF.fz kw8, kwb, PF.lend kwb, PF.fz kwb, ksl, PF.lend ksl, PF.fz ksl, kss, PF.lend kss, PF.fz kss, ku7, PF.lend ku7, PF.fz ku7, ksn, PF.lend ksn, PF.fz ksn, kl3, PF.lend kl3, PF.fz kl3, ku9, PF.lend ku9, PF.fz ku9, kl6, PF.lend kl6, PF.fz kl6, kt9, PF.lend kt9, PF.fz kt9, kqf, PF.lend kqf, PF.fz kqf, kh1, PF.lend kh1, PF.fz kh1, kgx, PF.lend kgx, PF.fz kgx, kq5, PF.lend kq5, PF.fz kq5] [] hmix 4 Tryz.f4 Tryz.func4 (fun c _ => LOk.nil c) kqp (by
  intro vs es r h; unfold kqp at h; split at h
  · cases h; kernel_rfl
  · cases h)

end Go.SX

namespace Go.SX
open Go.Proofs
set_option maxRecDepth 100000

theorem k143 {k : Int} {bs : List TM} {st : List IN} (hb : bs.length ≤ 9223372036854775807) (hst : st.length ≤ 9223372036854775807) (hs : ∀ t ∈ bs, t.2.1.size ≤ 9223372036854775807) (h0 : -1 ≤ k) (hk : k ≤ 1048576) :
    ksb k bs st = true ∧ (ltI (kd0 k bs st) 0 = false → (0 ≤ kd0 k bs st ∧ kd0 k bs st ≤ k) ∧ (bs.length : Int) + totT bs + st.length + kd0 k bs st = k) := by
  have t1 : leN bs.length 9223372036854775807 = true := leN_t hb
  have t2 : leN st.length 9223372036854775807 = true := leN_t hst
  have t3 : leI (-1) k = true := leI_t h0
  have t4 : leI k 1048576 = true := leI_t hk
  simp only [kd0, ksb, t1, t2, t3, t4, allT]
  cases h1 : ltI (szTs k bs) 0 with
  | true => exact ⟨rfl, fun h => absurd (show ltI (-1) 0 = false from h) (by decide)⟩
  | false =>
    obtain ⟨q1, q2⟩ := k14l hs hk h1
    have u3 : leI (-1) (szTs k bs) = true := leI_t (by omega)
    have u4 : leI (szTs k bs) 1048576 = true := leI_t (by omega)
    refine ⟨by rw [u3, u4]; rfl, fun h => ?_⟩
    simp only [cond_false] at h ⊢
    cases h2 : ltI (szL (szTs k bs) st.length) 0 with
    | true => rw [h2] at h; exact absurd (show ltI (-1) 0 = false from h) (by decide)
    | false =>
      obtain ⟨r1, r2⟩ := k12y h2
      simp only [cond_false]
      omega

theorem k149 {k : Int} {xs : List Int} {ss : List BS3} (hx : xs.length ≤ 9223372036854775807) (hs : ss.length ≤ 9223372036854775807) (h0 : -1 ≤ k) (hk : k ≤ 1048576) :
    kpt k xs ss = true ∧ (ltI (kfb k xs ss) 0 = false → (0 ≤ kfb k xs ss ∧ kfb k xs ss ≤ k) ∧ (xs.length : Int) + ss.length + kfb k xs ss = k) := by
  have t1 : leN xs.length 9223372036854775807 = true := leN_t hx
  have t2 : leN ss.length 9223372036854775807 = true := leN_t hs
  have t3 : leI (-1) k = true := leI_t h0
  have t4 : leI k 1048576 = true := leI_t hk
  have e : szV k xs = szL k xs.length := rfl
  simp only [kfb, kpt, t1, t2, t3, t4, e, allT]
  cases h1 : ltI (szL k xs.length) 0 with
  | true => exact ⟨rfl, fun h => absurd (show ltI (-1) 0 = false from h) (by decide)⟩
  | false =>
    obtain ⟨q1, q2⟩ := k12y h1
    have u3 : leI (-1) (szL k xs.length) = true := leI_t (by omega)
    have u4 : leI (szL k xs.length) 1048576 = true := leI_t (by omega)
    refine ⟨by rw [u3, u4]; rfl, fun h => ?_⟩
    simp only [cond_false] at h ⊢
    cases h2 : ltI (szL (szL k xs.length) ss.length) 0 with
    | true => rw [h2] at h; exact absurd (show ltI (-1) 0 = false from h) (by decide)
    | false =>
      obtain ⟨r1, r2⟩ := k12y h2
      simp only [cond_false]
      omega

theorem k155 (bs : List TM) (st : List IN) (h : (bs.length : Int) + st.length ≤ 1048576) : kpp 1 bs st = true ∧ 0 ≤ ke6 1 bs st ∧ ke6 1 bs st ≤ 5000000 := by
  have l1 : leN bs.length 9223372036854775807 = true := leN_t (by omega)
  have l2 : leN st.length 9223372036854775807 = true := leN_t (by omega)
  have m1 : mkOk3 3 1 bs.length = true := ks9.2 (by omega)
  have m2 : mkOk3 2 (1 + 3 * (bs.length : Int)) st.length = true := ks9.2 (by omega)
  refine ⟨by simp only [kpp, kmf, m1, m2, l1, l2, allT, Bool.and_self, cond_true], ?_, ?_⟩ <;> simp only [ke6, kmf] <;> omega

theorem k158 (k : Int) (xs : List Int) (ss : List BS3) (h0 : 0 ≤ k) (h1 : k ≤ 900000000) (h : (xs.length : Int) + ss.length ≤ 1048576) : kew k xs ss = true ∧ ltI (k5c k xs ss) 0 = false := by
  have l2 : leN ss.length 9223372036854775807 = true := leN_t (by omega)
  have m1 : mkOk k xs.length = true := k10j.2 (by omega)
  have m2 : mkOk3 3 (k + (xs.length : Int)) ss.length = true := ks9.2 (by omega)
  refine ⟨by simp only [kew, k70, m1, m2, l2, allT, Bool.and_self, cond_true], ltI_f ?_⟩
  simp only [k5c, k70]
  omega

theorem k15q (k : Int) (b : List Int) (c : List BS3) (h0 : 0 ≤ k) (h : k + b.length + 3 * (c.length : Int) ≤ 900000000) :
    knl k (kh0 k b) (kh2 k b c) = k5c k b c ∧ knm k (kh0 k b) (kh2 k b c) = true ∧
    ltI (k5c k b c) 0 = false ∧ kew k b c = true := by
  have m1 : mkOk k b.length = true := k10j.2 (by omega)
  have m2 : mkOk3 3 (k + (b.length : Int)) c.length = true := ks9.2 (by omega)
  have l1 : leN b.length 9223372036854775807 = true := leN_t (by omega)
  have l2 : leN c.length 9223372036854775807 = true := leN_t (by omega)
  have v1 := k152 k b.length m1
  have v2 := k15v _ c.length ((Bool.and_eq_true _ _).mpr ⟨m2, l2⟩)
  have t1 : ltI (k + (b.length : Int)) 0 = false := ltI_f (by omega)
  have t2 : ltI (k + (b.length : Int) + 3 * (c.length : Int)) 0 = false := ltI_f (by omega)
  refine ⟨?_, ?_, ?_, ?_⟩
  · simp only [knl, k5c, kh0, kh2, k70, v1, v2, t1, t2, cond_false]
  · simp only [knm, kh0, kh2, k70, v1, t1, upFrom_length, k13l, l1, l2, allT, Bool.or_true, cond_true]
  · simp only [k5c, k70, t2]
  · simp only [kew, k70, m1, m2, l2, allT, Bool.and_self, cond_true]

/-- A machine that is run to its end is possible. -/
theorem k15k {i v o : Int} {bs : List TM} {st : List IN} {inp : List Int} (hC : codeB i v o bs st = true) (hin : bitsB i inp = true) : ∀ (n : Nat) (m : MS), OkS i v o bs st m → st.length - m.1.toNat = n →
    OkS i v o bs st (finM bs st inp n m) ∧ (finM bs st inp n m).1 = st.length
  | 0, m, hm, hn => ⟨hm, by
    have := hm.lo
    have := hm.hi
    show m.1 = _
    omega⟩
  | n + 1, m, hm, hn => by
    have h0 := hm.lo
    have hlt : m.1 < st.length := by omega
    have hs := (stp_ok hC hin hm hlt).1
    have he : (stpM bs st inp m).1 = m.1 + 1 := rfl
    exact k15k hC hin n _ hs (by rw [he]; omega)

theorem run_ok {i v o : Int} {bs : List TM} {st : List IN} {inp : List Int} {k : Int} {stk xs os : List Int} {ss : List BS3} (h : runNd i v o bs st inp k stk xs os ss = true) : OkS i v o bs st (fnM bs st inp k stk xs os ss) ∧ (fnM bs st inp k stk xs os ss).1 = st.length := by
  simp only [runNd, Bool.and_eq_true] at h
  exact k15k h.1 h.2.1 _ _ (mch_ok h.1 h.2.2) rfl

theorem rc_len (i v o : Int) (bs : List TM) (st : List IN) (xs : List Int) (ss : List BS3) (inp : List Int) : (rcO i v o bs st xs ss inp).length ≤ 20 ∧ (rcV i v o bs st xs ss inp).length ≤ 20 ∧ (rcS i v o bs st xs ss inp).length ≤ 2000 := by
  simp only [rcO, rcV, rcS]
  rcases k13w i v o bs st xs ss inp with ⟨h1, h2⟩ | ⟨h1, h3, h2⟩ | ⟨h1, h3, h4, h2⟩
  · rw [h2]; simp
  · rw [h2]; simp
  · rw [h2]
    have := run_ok (ex_run h1).1
    have := ok_len h3 this.1
    simp only [beq_self_eq_true, cond_true, rnM]
    omega

end Go.SX

namespace Go.SX
open Go.Proofs
set_option maxRecDepth 100000

theorem k14j (x0 x1 x2 : Int) (x3 : List TM) (x4 : List IN) (x5 : List Int) (x6 : List BS3) (x7 : List Int) (w3 : wfD (.sl 22 (.pair (.int .i64) (.pair (.str) (.int .i64)))) x3) (w4 : wfD (.sl 23 (.pair (.int .i64) (.int .i64))) x4) (w5 : wfD (.sl 2 (.int .i64)) x5) (w6 : wfD (.sl 42 (.pair (.int .i64) (.pair (.int .i64) (.int .i64)))) x6) (w7 : wfD (.sl 2 (.int .i64)) x7) :
    kcx x0 x1 x2 x3 x4 x5 x6 x7 = true ∧ kcy x0 x1 x2 x3 x4 x5 x6 x7 = true := by
  have l3 : x3.length ≤ 9223372036854775807 := w3.1
  have l4 : x4.length ≤ 9223372036854775807 := w4.1
  have l5 : x5.length ≤ 9223372036854775807 := w5.1
  have l6 : x6.length ≤ 9223372036854775807 := w6.1
  have l7 : x7.length ≤ 9223372036854775807 := w7.1
  have hs : ∀ t ∈ x3, t.2.1.size ≤ 9223372036854775807 := fun t ht => (w3.2 t ht).2.1
  cases h7 : ltI 1048576 (x7.length : Int) with
  | true => simp [kcx, kcy, kao, kai, kaj, kak, h7, allT]
  | false =>
    have h7 : x7.length ≤ 1048576 := by
      rcases Nat.lt_or_ge 1048576 x7.length with h | h
      · rw [ltI_t (by omega)] at h7; cases h7
      · exact h
    have h7f : ltI 1048576 (x7.length : Int) = false := ltI_f (by omega)
    obtain ⟨s1, s2⟩ := k143 (k := 1048576) l3 l4 hs (by omega) (by omega)
    cases h1 : ltI (kd0 1048576 x3 x4) 0 with
    | true => simp [kcx, kcy, kn, kao, kai, kaj, kak, h1, h7f, s1, allT]
    | false =>
      obtain ⟨⟨c0, c1⟩, c2⟩ := s2 h1
      obtain ⟨u1, u2⟩ := k149 (k := kd0 1048576 x3 x4) l5 l6 (by omega) c1
      cases h2 : ltI (kfb (kd0 1048576 x3 x4) x5 x6) 0 with
      | true => simp [kcx, kcy, kn, kq, kao, kai, kaj, kak, h1, h2, h7f, s1, u1, allT]
      | false =>
        obtain ⟨⟨d0, d1⟩, d2⟩ := u2 h2
        have k3 : leN x3.length 1048576 = true := leN_t (by omega)
        have k4 : leN x4.length 1048576 = true := leN_t (by omega)
        have k5 : leN x5.length 1048576 = true := leN_t (by omega)
        have k6 : leN x6.length 1048576 = true := leN_t (by omega)
        have k7 : leN x7.length 1048576 = true := leN_t (by omega)
        have m3 : leN x3.length 9223372036854775807 = true := leN_t l3
        have m4 : leN x4.length 9223372036854775807 = true := leN_t l4
        have m5 : leN x5.length 9223372036854775807 = true := leN_t l5
        have m6 : leN x6.length 9223372036854775807 = true := leN_t l6
        have m7 : leN x7.length 9223372036854775807 = true := leN_t l7
        have hS : rcNd x3 x5 x7 = true := by simp only [rcNd, k5, k7, k13e.2 ⟨l3, hs⟩]; rfl
        obtain ⟨n1, n2, n3⟩ := rc_len x0 x1 x2 x3 x4 x5 x6 x7
        generalize hA : rcO x0 x1 x2 x3 x4 x5 x6 x7 = A at n1
        generalize hB : rcV x0 x1 x2 x3 x4 x5 x6 x7 = B at n2
        generalize hK : rcS x0 x1 x2 x3 x4 x5 x6 x7 = K at n3
        generalize hD : rcCode x0 x1 x2 x3 x4 x5 x6 x7 = D
        obtain ⟨g1, g2, g3⟩ := k155 x3 x4 (by omega)
        obtain ⟨g4, g5⟩ := k158 (ke6 1 x3 x4) x5 x6 g2 (by omega) (by omega)
        have f1 : k2x x0 x1 x2 x0 x1 x2 x3 x4 x3 x4 = true := by simp [k2x, k146, k15b]
        have f2 : ks7 x0 x1 x2 x0 x1 x2 x3 x4 x3 = true := by simp [ks7, k146, m3, m4, allT]
        have f3 : k23 x5 x6 x5 x6 = true := by simp [k23, k101, k144]
        have f4 : kfa x5 x6 x5 = true := by simp [kfa, k101, m5, m6, allT]
        have f5 : knx x3 x4 = true := by simp only [knx, k3, k4, allT, cond_true]
        have f6 : kld x5 x6 = true := by simp only [kld, k5, k6, allT, cond_true]
        have f7 : eqL x7 x7 = true := k101 x7
        have nA : leN A.length 9223372036854775807 = true := leN_t (by omega)
        have nB : leN B.length 9223372036854775807 = true := leN_t (by omega)
        have nK : leN K.length 9223372036854775807 = true := leN_t (by omega)
        have f8 : k23 B K B K = true := by simp [k23, k101, k144]
        have f9 : kfa B K B = true := by simp [kfa, k101, nB, nK, allT]
        have mA : mkOk 1 A.length = true := k10j.2 (by omega)
        have vA := k152 1 A.length mA
        obtain ⟨q1, q2, q3, q4⟩ := k15q (1 + (A.length : Int)) B K (by omega) (by omega)
        have g6 : mkOk (k5c (ke6 1 x3 x4) x5 x6) x7.length = true := by
          simp only [k5c, k70]
          exact k10j.2 (by omega)
        have r0 : kn x3 x4 = false := h1
        have r1 : kq x3 x4 x5 x6 = false := h2
        have r2 : k9o x0 x1 x2 x3 x4 x5 x6 x7 = false := by simp only [k9o, hA, k101, Bool.not_true]
        have r3 : khr x0 x1 x2 x3 x4 x5 x6 x7 = false := by simp only [khr, hD, bne_self_eq_false]
        have r4 : ky x0 x1 x2 x3 x4 x5 x6 x7 = false := by simp only [ky, r2, r3, hB, hK, f8, Bool.not_true, cond_false]
        have r5 : k9a x3 x4 x5 x6 x7 = false := by
          simp only [k9a, k5c, k70]
          exact ltI_f (by omega)
        have r6 : kc4 x0 x1 x2 x3 x4 x5 x6 x7 = false := by simp only [kc4, r2, r5, cond_false]
        have r7 : kbv x0 x1 x2 x3 x4 x5 x6 x7 = B := by simp only [kbv, Bool.cond_self, hB]
        have r8 : kc3 x0 x1 x2 x3 x4 x5 x6 x7 = K := by simp only [kc3, Bool.cond_self, hK]
        have r9 : k2b x0 x1 x2 x3 x4 x5 x6 x7 = false := by simp only [k2b, r3, r6, r7, r8, hB, hK, f8, Bool.not_true, cond_false]
        have r10 : kgo x0 x1 x2 x3 x4 x5 x6 x7 = upFrom 1 A.length := by simp only [kgo, Bool.cond_self, hA]
        have r11 : kda x0 x1 x2 x3 x4 x5 x6 x7 = 1 + (A.length : Int) := by simp only [kda, r10, vA]
        have r12 : k2j x0 x1 x2 x3 x4 x5 x6 x7 = false := by simp only [k2j, r11]; exact ltI_f (by omega)
        have r13 : kam x0 x1 x2 x3 x4 x5 x6 x7 = 1 + (A.length : Int) := by simp only [kam, Bool.cond_self, hA]
        have r14 : kaq x0 x1 x2 x3 x4 x5 x6 x7 = B := by simp only [kaq, Bool.cond_self, r7]
        have r16 : kdc x0 x1 x2 x3 x4 x5 x6 x7 = K := by simp only [kdc, Bool.cond_self, r8]
        have r18 : kgn x0 x1 x2 x3 x4 x5 x6 x7 = k5c (1 + (A.length : Int)) B K := by simp only [kgn, kgp, kgq, r11, r13, r14, r16, q1]
        have r19 : k2r x0 x1 x2 x3 x4 x5 x6 x7 = false := by simp only [k2r, r18, q3]
        have r20 : k2q x0 x1 x2 x3 x4 x5 x6 x7 = false := by simp only [k2q, r18, r13, r14, r16, bne_self_eq_false]
        have r25 : kdh x0 x1 x2 x3 x4 x5 x6 x7 = true := by simp only [kdh, hA, nA]
        have r26 : kgm x0 x1 x2 x3 x4 x5 x6 x7 = true := by simp only [kgm, hB, hK, f9, Bool.or_true]
        have r27 : kgr x0 x1 x2 x3 x4 x5 x6 x7 = true := by simp only [kgr, r10, upFrom_length, nA]
        have r28 : kgs x0 x1 x2 x3 x4 x5 x6 x7 = true := by simp only [kgs, kgp, kgq, r11, r13, r14, r16, q2, Bool.or_true]
        simp only [kcx, kcy, kao, kai, kaj, kak, h7f, r0, r1, r4, r5, r6, r7, r8, r9, r12, r13, r14, r16, r19, r20, r25, r26, r27, r28, f1, f2, f3, f4, f5, f6, f7, f8, f9, hS, s1, u1, g1, g4, g6, q4, k7, m7, mA, nA, hA, hB, hK, Bool.cond_self, allT, Bool.or_true, Bool.not_true, Bool.not_false, Bool.and_self, cond_true, cond_false, and_self]

end Go.SX
