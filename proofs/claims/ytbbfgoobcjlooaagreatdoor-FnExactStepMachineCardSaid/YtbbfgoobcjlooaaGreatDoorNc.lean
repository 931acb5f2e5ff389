/- What functions of the program come to, and what that says in plain words: part 3. -/
import Derived.Test.YtbbfgoobcjlooaaGreatDoorNb
import Derived.Test.YtbbfgoobcjlooaaGreatDoorTXh
import Derived.Test.YtbbfgoobcjlooaaGreatDoorProg
set_option linter.unusedSimpArgs false
set_option linter.unusedVariables false
namespace Go.SX
open Go.Proofs
set_option maxRecDepth 100000

def klh (x0 : Int) (x1 : List Int) : List Int :=
  bif x0 == (0 : Int) then List.replicate (Int.toNat (↑(List.length x1) : Int)) (0 : Int) else x1

def klj (x0 : Int) (x1 : List Int) : Bool :=
  allT
  [!x0 == (0 : Int) || leI (0 : Int) (↑(List.length x1) : Int), !x0 == (0 : Int) || leI (↑(List.length x1) : Int) (↑(List.length x1) : Int),
    !x0 == (0 : Int) || leI ((↑(8 : Nat) : Int) * (↑(List.length x1) : Int)) (281474976710656 : Int),
    !x0 == (0 : Int) || leI (↑(List.length x1) : Int) (9223372036854775807 : Int)]

def k129 : List SV → List Entry → Option Out
  | [.one ⟨false, [.ref 0]⟩, .one ⟨false, [.val (.int .i64 x0)]⟩], [.row false 2 (.int .i64) x1] => some ⟨(.one ⟨false, [(.ref 1)]⟩), [(.row false 2 (CTy.int IntKind.i64) x1)], [(.row false 2 (CTy.int IntKind.i64) (klh x0 x1))], [(klj x0 x1)]⟩
  | _, _ => none

def kxo : PF Tryz.prog := PF.ofG Tryz.prog [] [] hmix 191 Tryz.f191 Tryz.func191 (fun c _ => LOk.nil c) k129 (by
  intro vs es r h; unfold k129 at h; split at h
  · cases h; kernel_rfl
  · cases h)

def k17 (x3 : Int) (x5 : List (Int × Int)) : Int × Int :=
  Option.getD x5[Int.toNat x3]? ((0 : Int), (0 : Int))

def ka (x3 : Int) (x5 : List (Int × Int)) : Bool :=
  Prod.fst (k17 x3 x5) == (1 : Int)

def kd (x3 : Int) (x5 : List (Int × Int)) : Bool :=
  k7u (Prod.fst (k17 x3 x5)) == (1 : Int)

def k2t (x3 : Int) : Int :=
  IntKind.wrap IntKind.i64 (x3 + (1 : Int))

def kb (x3 : Int) (x5 : List (Int × Int)) : Bool :=
  Prod.fst (k17 x3 x5) == (2 : Int)

def kf (x3 : Int) (x5 : List (Int × Int)) : Bool :=
  Prod.fst (k17 x3 x5) == (3 : Int)

def kj (x3 : Int) (x5 : List (Int × Int)) : Bool :=
  Prod.fst (k17 x3 x5) == (4 : Int)

def ko (x3 : Int) (x5 : List (Int × Int)) : Bool :=
  Prod.fst (k17 x3 x5) == (5 : Int)

def kw (x3 : Int) (x5 : List (Int × Int)) : Bool :=
  Prod.fst (k17 x3 x5) == (6 : Int)

def k19 (x3 : Int) (x5 : List (Int × Int)) : Bool :=
  Prod.fst (k17 x3 x5) == (7 : Int)

def k1d (x3 : Int) (x5 : List (Int × Int)) : Bool :=
  Prod.fst (k17 x3 x5) == (8 : Int)

def k1x (x3 : Int) (x5 : List (Int × Int)) : Bool :=
  Prod.fst (k17 x3 x5) == (9 : Int)

def k35 (x3 : Int) (x5 : List (Int × Int)) : Bool :=
  Prod.fst (k17 x3 x5) == (10 : Int)

def k6m (x3 : Int) (x5 : List (Int × Int)) : Bool :=
  Prod.fst (k17 x3 x5) == (11 : Int)

def kgf (x3 : Int) (x4 : List (Int × ByteArray × Int)) (x5 : List (Int × Int)) (x6 : List Int) : Int :=
  IntKind.wrap IntKind.i64 ((↑(List.length x6) : Int) - k4j (Prod.fst (k17 x3 x5)) (Prod.snd (k17 x3 x5)) x4)

def k1h (x3 : Int) (x4 : List (Int × ByteArray × Int)) (x5 : List (Int × Int)) (x6 : List Int) : List Int :=
  List.drop (Int.toNat (0 : Int)) (List.take (Int.toNat (kgf x3 x4 x5 x6)) x6)

def kgd (x3 : Int) (x5 : List (Int × Int)) (x10 : List Int) : Int :=
  Option.getD x10[Int.toNat (Prod.snd (k17 x3 x5))]? (0 : Int)

def kga (x3 : Int) (x5 : List (Int × Int)) (x7 : List Int) : Int :=
  Option.getD x7[Int.toNat (Prod.snd (k17 x3 x5))]? (0 : Int)

def k6l (x3 : Int) (x4 : List (Int × ByteArray × Int)) (x5 : List (Int × Int)) (x6 : List Int) : List Int :=
  List.drop (Int.toNat (kgf x3 x4 x5 x6)) (List.take (Int.toNat (↑(List.length x6) : Int)) x6)

def khv (x3 : Int) (x4 : List (Int × ByteArray × Int)) (x5 : List (Int × Int)) (x6 : List Int) : Int :=
  Option.getD (k6l x3 x4 x5 x6)[Int.toNat (0 : Int)]? (0 : Int)

def k5m (x3 : Int) (x4 : List (Int × ByteArray × Int)) (x5 : List (Int × Int)) (x6 : List Int) : List Int :=
  [IntKind.wrap IntKind.i64 ((1 : Int) - khv x3 x4 x5 x6)]

def k5f (x3 : Int) (x4 : List (Int × ByteArray × Int)) (x5 : List (Int × Int)) (x6 : List Int) : List Int :=
  [IntKind.wrap IntKind.i64
    (↑(BitVec.toNat
          (BitVec.ofInt (IntKind.bits IntKind.i64) (khv x3 x4 x5 x6) &&&
            BitVec.ofInt (IntKind.bits IntKind.i64) (Option.getD (k6l x3 x4 x5 x6)[Int.toNat (1 : Int)]? (0 : Int)))) :
      Int)]

def k5j (x3 : Int) (x4 : List (Int × ByteArray × Int)) (x5 : List (Int × Int)) (x6 : List Int) : List Int :=
  [IntKind.wrap IntKind.i64
    (↑(BitVec.toNat
          (BitVec.ofInt (IntKind.bits IntKind.i64) (khv x3 x4 x5 x6) |||
            BitVec.ofInt (IntKind.bits IntKind.i64) (Option.getD (k6l x3 x4 x5 x6)[Int.toNat (1 : Int)]? (0 : Int)))) :
      Int)]

def kel (x3 : Int) (x4 : List (Int × ByteArray × Int)) (x5 : List (Int × Int)) : Int × ByteArray × Int :=
  Option.getD x4[Int.toNat (Prod.snd (k17 x3 x5))]? ((0 : Int), ByteArray.empty, (0 : Int))

def ka5 (x3 : Int) (x5 : List (Int × Int)) (x9 : List (Int × Int × Int)) : Int × Int × Int :=
  Option.getD x9[Int.toNat (Prod.snd (k17 x3 x5))]? ((0 : Int), (0 : Int), (0 : Int))

def k5l (x3 : Int) (x4 : List (Int × ByteArray × Int)) (x5 : List (Int × Int)) (x6 : List Int) (x9 : List (Int × Int × Int)) : List Int :=
  [k50 (Prod.fst (kel x3 x4 x5)) (Prod.snd (Prod.snd (kel x3 x4 x5))) (Prod.fst (ka5 x3 x5 x9))
    (Prod.fst (Prod.snd (ka5 x3 x5 x9))) (Prod.snd (Prod.snd (ka5 x3 x5 x9))) (k6l x3 x4 x5 x6)]

def khw (x3 : Int) (x4 : List (Int × ByteArray × Int)) (x5 : List (Int × Int)) (x6 : List Int) : List Int :=
  bif kd x3 x5 then k1h x3 x4 x5 x6 ++ [(0 : Int)] else k1h x3 x4 x5 x6

def krb (x3 : Int) (x4 : List (Int × ByteArray × Int)) (x5 : List (Int × Int)) (x6 : List Int) (x7 : List Int) : List Int :=
  List.set x7 (Int.toNat (Prod.snd (k17 x3 x5))) (khv x3 x4 x5 x6)

def kqk (x3 : Int) (x4 : List (Int × ByteArray × Int)) (x5 : List (Int × Int)) (x6 : List Int) (x8 : List Int) : List Int :=
  List.set x8 (Int.toNat (Prod.snd (k17 x3 x5))) (khv x3 x4 x5 x6)

def kr7 (x3 : Int) (x4 : List (Int × ByteArray × Int)) (x5 : List (Int × Int)) (x6 : List Int) (x9 : List (Int × Int × Int)) : List (Int × Int × Int) :=
  List.set x9 (Int.toNat (Prod.snd (k17 x3 x5)))
  (k7e (Prod.fst (kel x3 x4 x5)) (Prod.snd (Prod.snd (kel x3 x4 x5))) (Prod.fst (ka5 x3 x5 x9))
      (Prod.fst (Prod.snd (ka5 x3 x5 x9))) (Prod.snd (Prod.snd (ka5 x3 x5 x9))) (k6l x3 x4 x5 x6),
    k7l (Prod.fst (kel x3 x4 x5)) (Prod.fst (Prod.snd (ka5 x3 x5 x9)))
      (Prod.snd (Prod.snd (ka5 x3 x5 x9))) (k6l x3 x4 x5 x6),
    k7d (Prod.fst (kel x3 x4 x5)) (Prod.snd (Prod.snd (kel x3 x4 x5))) (Prod.fst (ka5 x3 x5 x9))
      (Prod.snd (Prod.snd (ka5 x3 x5 x9))) (k6l x3 x4 x5 x6))

def k8j (x3 : Int) (x5 : List (Int × Int)) (x10 : List Int) : Bool :=
  ltI (Prod.snd (k17 x3 x5)) (↑(List.length x10) : Int)

def k7i (x3 : Int) (x5 : List (Int × Int)) (x7 : List Int) : Bool :=
  ltI (Prod.snd (k17 x3 x5)) (↑(List.length x7) : Int)

def k5e (x3 : Int) (x4 : List (Int × ByteArray × Int)) (x5 : List (Int × Int)) (x6 : List Int) : Bool :=
  ltI (0 : Int) (↑(List.length (k6l x3 x4 x5 x6)) : Int)

def k5h (x3 : Int) (x4 : List (Int × ByteArray × Int)) (x5 : List (Int × Int)) (x6 : List Int) : Bool :=
  ltN (Int.toNat (0 : Int)) (List.length (k6l x3 x4 x5 x6))

def k8i (x3 : Int) (x4 : List (Int × ByteArray × Int)) (x5 : List (Int × Int)) (x6 : List Int) : Bool :=
  ltI (1 : Int) (↑(List.length (k6l x3 x4 x5 x6)) : Int)

def k8h (x3 : Int) (x4 : List (Int × ByteArray × Int)) (x5 : List (Int × Int)) (x6 : List Int) : Bool :=
  ltN (Int.toNat (1 : Int)) (List.length (k6l x3 x4 x5 x6))

def k7j (x3 : Int) (x5 : List (Int × Int)) : Bool :=
  ka x3 x5 ||
  (kb x3 x5 ||
    (kf x3 x5 ||
      (kj x3 x5 ||
        (ko x3 x5 || (kw x3 x5 || (!k19 x3 x5 || leI (0 : Int) (Prod.snd (k17 x3 x5))))))))

def k8q (x3 : Int) (x5 : List (Int × Int)) (x9 : List (Int × Int × Int)) : Bool :=
  ka x3 x5 ||
  (kb x3 x5 ||
    (kf x3 x5 ||
      (kj x3 x5 ||
        (ko x3 x5 ||
          (kw x3 x5 || (!k19 x3 x5 || ltI (Prod.snd (k17 x3 x5)) (↑(List.length x9) : Int)))))))

def k8l (x3 : Int) (x5 : List (Int × Int)) (x9 : List (Int × Int × Int)) : Bool :=
  ka x3 x5 ||
  (kb x3 x5 ||
    (kf x3 x5 ||
      (kj x3 x5 ||
        (ko x3 x5 ||
          (kw x3 x5 || (!k19 x3 x5 || ltN (Int.toNat (Prod.snd (k17 x3 x5))) (List.length x9)))))))

def k5k (x3 : Int) (x4 : List (Int × ByteArray × Int)) (x5 : List (Int × Int)) (x6 : List Int) : Bool :=
  !kd x3 x5 || leN (List.length (k1h x3 x4 x5 x6) + List.length [(0 : Int)]) (9223372036854775807 : Nat)

def k5i (x3 : Int) (x4 : List (Int × ByteArray × Int)) (x5 : List (Int × Int)) (x6 : List Int) : Bool :=
  !kd x3 x5 || leN ((List.length (k1h x3 x4 x5 x6) + List.length [(0 : Int)]) * (8 : Nat)) (140737488355328 : Nat)

def kop (x3 : Int) (x5 : List (Int × Int)) : Int :=
  bif ka x3 x5 then bif kd x3 x5 then k2t x3 else k2t x3
  else
  bif kb x3 x5 then bif kd x3 x5 then k2t x3 else k2t x3
  else
    bif kf x3 x5 then bif kd x3 x5 then k2t x3 else k2t x3
    else
      bif kj x3 x5 then bif kd x3 x5 then k2t x3 else k2t x3
      else
        bif ko x3 x5 then bif kd x3 x5 then k2t x3 else k2t x3
        else
          bif kw x3 x5 then bif kd x3 x5 then k2t x3 else k2t x3
          else
            bif k19 x3 x5 then bif kd x3 x5 then k2t x3 else k2t x3
            else
              bif k1d x3 x5 then bif kd x3 x5 then k2t x3 else k2t x3
              else
                bif k1x x3 x5 then bif kd x3 x5 then k2t x3 else k2t x3
                else
                  bif k35 x3 x5 then bif kd x3 x5 then k2t x3 else k2t x3
                  else
                    bif k6m x3 x5 then bif kd x3 x5 then k2t x3 else k2t x3
                    else bif kd x3 x5 then k2t x3 else k2t x3

def kol (x3 : Int) (x4 : List (Int × ByteArray × Int)) (x5 : List (Int × Int)) (x6 : List Int) (x7 : List Int) (x9 : List (Int × Int × Int)) (x10 : List Int) : List Int :=
  bif ka x3 x5 then
  bif kd x3 x5 then k1h x3 x4 x5 x6 ++ [Prod.snd (k17 x3 x5)] else k1h x3 x4 x5 x6
  else
  bif kb x3 x5 then
    bif kd x3 x5 then k1h x3 x4 x5 x6 ++ [kgd x3 x5 x10] else k1h x3 x4 x5 x6
  else
    bif kf x3 x5 then
      bif kd x3 x5 then k1h x3 x4 x5 x6 ++ [kga x3 x5 x7] else k1h x3 x4 x5 x6
    else
      bif kj x3 x5 then
        bif kd x3 x5 then k1h x3 x4 x5 x6 ++ k5m x3 x4 x5 x6 else k1h x3 x4 x5 x6
      else
        bif ko x3 x5 then
          bif kd x3 x5 then k1h x3 x4 x5 x6 ++ k5f x3 x4 x5 x6 else k1h x3 x4 x5 x6
        else
          bif kw x3 x5 then
            bif kd x3 x5 then k1h x3 x4 x5 x6 ++ k5j x3 x4 x5 x6 else k1h x3 x4 x5 x6
          else
            bif k19 x3 x5 then
              bif kd x3 x5 then k1h x3 x4 x5 x6 ++ k5l x3 x4 x5 x6 x9 else k1h x3 x4 x5 x6
            else
              bif k1d x3 x5 then khw x3 x4 x5 x6
              else
                bif k1x x3 x5 then khw x3 x4 x5 x6
                else
                  bif k35 x3 x5 then khw x3 x4 x5 x6
                  else bif k6m x3 x5 then khw x3 x4 x5 x6 else khw x3 x4 x5 x6

def kqj (x3 : Int) (x4 : List (Int × ByteArray × Int)) (x5 : List (Int × Int)) (x6 : List Int) (x7 : List Int) : List Int :=
  bif ka x3 x5 then bif kd x3 x5 then x7 else x7
  else
  bif kb x3 x5 then bif kd x3 x5 then x7 else x7
  else
    bif kf x3 x5 then bif kd x3 x5 then x7 else x7
    else
      bif kj x3 x5 then bif kd x3 x5 then x7 else x7
      else
        bif ko x3 x5 then bif kd x3 x5 then x7 else x7
        else
          bif kw x3 x5 then bif kd x3 x5 then x7 else x7
          else
            bif k19 x3 x5 then bif kd x3 x5 then x7 else x7
            else
              bif k1d x3 x5 then bif kd x3 x5 then krb x3 x4 x5 x6 x7 else krb x3 x4 x5 x6 x7
              else
                bif k1x x3 x5 then bif kd x3 x5 then x7 else x7
                else
                  bif k35 x3 x5 then bif kd x3 x5 then x7 else x7
                  else bif k6m x3 x5 then bif kd x3 x5 then x7 else x7 else bif kd x3 x5 then x7 else x7

def kr0 (x3 : Int) (x4 : List (Int × ByteArray × Int)) (x5 : List (Int × Int)) (x6 : List Int) (x7 : List Int) (x8 : List Int) (x10 : List Int) : List Int :=
  bif ka x3 x5 then bif kd x3 x5 then x8 else x8
  else
  bif kb x3 x5 then bif kd x3 x5 then x8 else x8
  else
    bif kf x3 x5 then bif kd x3 x5 then x8 else x8
    else
      bif kj x3 x5 then bif kd x3 x5 then x8 else x8
      else
        bif ko x3 x5 then bif kd x3 x5 then x8 else x8
        else
          bif kw x3 x5 then bif kd x3 x5 then x8 else x8
          else
            bif k19 x3 x5 then bif kd x3 x5 then x8 else x8
            else
              bif k1d x3 x5 then bif kd x3 x5 then x8 else x8
              else
                bif k1x x3 x5 then bif kd x3 x5 then kqk x3 x4 x5 x6 x8 else kqk x3 x4 x5 x6 x8
                else
                  bif k35 x3 x5 then
                    bif kd x3 x5 then klh (kgd x3 x5 x10) x8 else klh (kgd x3 x5 x10) x8
                  else
                    bif k6m x3 x5 then
                      bif kd x3 x5 then klh (kga x3 x5 x7) x8 else klh (kga x3 x5 x7) x8
                    else bif kd x3 x5 then x8 else x8

def kqp (x3 : Int) (x4 : List (Int × ByteArray × Int)) (x5 : List (Int × Int)) (x6 : List Int) (x9 : List (Int × Int × Int)) : List (Int × (Int × Int)) :=
  bif ka x3 x5 then bif kd x3 x5 then x9 else x9
  else
  bif kb x3 x5 then bif kd x3 x5 then x9 else x9
  else
    bif kf x3 x5 then bif kd x3 x5 then x9 else x9
    else
      bif kj x3 x5 then bif kd x3 x5 then x9 else x9
      else
        bif ko x3 x5 then bif kd x3 x5 then x9 else x9
        else
          bif kw x3 x5 then bif kd x3 x5 then x9 else x9
          else
            bif k19 x3 x5 then bif kd x3 x5 then kr7 x3 x4 x5 x6 x9 else kr7 x3 x4 x5 x6 x9
            else
              bif k1d x3 x5 then bif kd x3 x5 then x9 else x9
              else
                bif k1x x3 x5 then bif kd x3 x5 then x9 else x9
                else
                  bif k35 x3 x5 then bif kd x3 x5 then x9 else x9
                  else bif k6m x3 x5 then bif kd x3 x5 then x9 else x9 else bif kd x3 x5 then x9 else x9

def k9t (x3 : Int) (x4 : List (Int × ByteArray × Int)) (x5 : List (Int × Int)) (x6 : List Int) (x7 : List Int) (x8 : List Int) (x9 : List (Int × Int × Int)) (x10 : List Int) : Bool :=
  allT
  [leI (0 : Int) x3, ltI x3 (↑(List.length x5) : Int), ltN (Int.toNat x3) (List.length x5),
    khd (Prod.fst (k17 x3 x5)) (Prod.snd (k17 x3 x5)) x4, leI (0 : Int) (kgf x3 x4 x5 x6),
    leI (kgf x3 x4 x5 x6) (↑(List.length x6) : Int), leI (↑(List.length x6) : Int) (↑(List.length x6) : Int),
    leN (List.length (k6l x3 x4 x5 x6)) (1048576 : Nat), leI (0 : Int) (kgf x3 x4 x5 x6),
    leI (kgf x3 x4 x5 x6) (↑(List.length x6) : Int), leN (List.length (k1h x3 x4 x5 x6)) (1048576 : Nat),
    leN (List.length x7) (1048576 : Nat), leN (List.length x8) (1048576 : Nat), leN ((0 : Nat) + List.length x9) (9223372036854775807 : Nat),
    leN (((0 : Nat) + List.length x9) * (24 : Nat)) (140737488355328 : Nat),
    ka x3 x5 || (!kb x3 x5 || leI (0 : Int) (Prod.snd (k17 x3 x5))),
    ka x3 x5 || (!kb x3 x5 || k8j x3 x5 x10),
    ka x3 x5 || (!kb x3 x5 || ltN (Int.toNat (Prod.snd (k17 x3 x5))) (List.length x10)),
    ka x3 x5 || (kb x3 x5 || (!kf x3 x5 || leI (0 : Int) (Prod.snd (k17 x3 x5)))),
    ka x3 x5 || (kb x3 x5 || (!kf x3 x5 || k7i x3 x5 x7)),
    ka x3 x5 ||
      (kb x3 x5 || (!kf x3 x5 || ltN (Int.toNat (Prod.snd (k17 x3 x5))) (List.length x7))),
    ka x3 x5 || (kb x3 x5 || (kf x3 x5 || (!kj x3 x5 || leI (0 : Int) (0 : Int)))),
    ka x3 x5 || (kb x3 x5 || (kf x3 x5 || (!kj x3 x5 || k5e x3 x4 x5 x6))),
    ka x3 x5 || (kb x3 x5 || (kf x3 x5 || (!kj x3 x5 || k5h x3 x4 x5 x6))),
    ka x3 x5 ||
      (kb x3 x5 || (kf x3 x5 || (kj x3 x5 || (!ko x3 x5 || leI (0 : Int) (0 : Int))))),
    ka x3 x5 ||
      (kb x3 x5 || (kf x3 x5 || (kj x3 x5 || (!ko x3 x5 || k5e x3 x4 x5 x6)))),
    ka x3 x5 ||
      (kb x3 x5 || (kf x3 x5 || (kj x3 x5 || (!ko x3 x5 || k5h x3 x4 x5 x6)))),
    ka x3 x5 ||
      (kb x3 x5 || (kf x3 x5 || (kj x3 x5 || (!ko x3 x5 || leI (0 : Int) (1 : Int))))),
    ka x3 x5 ||
      (kb x3 x5 || (kf x3 x5 || (kj x3 x5 || (!ko x3 x5 || k8i x3 x4 x5 x6)))),
    ka x3 x5 ||
      (kb x3 x5 || (kf x3 x5 || (kj x3 x5 || (!ko x3 x5 || k8h x3 x4 x5 x6)))),
    ka x3 x5 ||
      (kb x3 x5 ||
        (kf x3 x5 || (kj x3 x5 || (ko x3 x5 || (!kw x3 x5 || leI (0 : Int) (0 : Int)))))),
    ka x3 x5 ||
      (kb x3 x5 ||
        (kf x3 x5 || (kj x3 x5 || (ko x3 x5 || (!kw x3 x5 || k5e x3 x4 x5 x6))))),
    ka x3 x5 ||
      (kb x3 x5 ||
        (kf x3 x5 || (kj x3 x5 || (ko x3 x5 || (!kw x3 x5 || k5h x3 x4 x5 x6))))),
    ka x3 x5 ||
      (kb x3 x5 ||
        (kf x3 x5 || (kj x3 x5 || (ko x3 x5 || (!kw x3 x5 || leI (0 : Int) (1 : Int)))))),
    ka x3 x5 ||
      (kb x3 x5 ||
        (kf x3 x5 || (kj x3 x5 || (ko x3 x5 || (!kw x3 x5 || k8i x3 x4 x5 x6))))),
    ka x3 x5 ||
      (kb x3 x5 ||
        (kf x3 x5 || (kj x3 x5 || (ko x3 x5 || (!kw x3 x5 || k8h x3 x4 x5 x6))))),
    k7j x3 x5,
    ka x3 x5 ||
      (kb x3 x5 ||
        (kf x3 x5 ||
          (kj x3 x5 ||
            (ko x3 x5 ||
              (kw x3 x5 || (!k19 x3 x5 || ltI (Prod.snd (k17 x3 x5)) (↑(List.length x4) : Int))))))),
    ka x3 x5 ||
      (kb x3 x5 ||
        (kf x3 x5 ||
          (kj x3 x5 ||
            (ko x3 x5 ||
              (kw x3 x5 || (!k19 x3 x5 || ltN (Int.toNat (Prod.snd (k17 x3 x5))) (List.length x4))))))),
    k7j x3 x5, k8q x3 x5 x9, k8l x3 x5 x9,
    ka x3 x5 ||
      (kb x3 x5 ||
        (kf x3 x5 ||
          (kj x3 x5 ||
            (ko x3 x5 || (kw x3 x5 || (!k19 x3 x5 || k9q (k6l x3 x4 x5 x6))))))),
    k7j x3 x5, k8q x3 x5 x9, k8l x3 x5 x9,
    ka x3 x5 ||
      (kb x3 x5 ||
        (kf x3 x5 ||
          (kj x3 x5 ||
            (ko x3 x5 || (kw x3 x5 || (k19 x3 x5 || (!k1d x3 x5 || leI (0 : Int) (0 : Int)))))))),
    ka x3 x5 ||
      (kb x3 x5 ||
        (kf x3 x5 ||
          (kj x3 x5 ||
            (ko x3 x5 ||
              (kw x3 x5 || (k19 x3 x5 || (!k1d x3 x5 || k5e x3 x4 x5 x6))))))),
    ka x3 x5 ||
      (kb x3 x5 ||
        (kf x3 x5 ||
          (kj x3 x5 ||
            (ko x3 x5 ||
              (kw x3 x5 || (k19 x3 x5 || (!k1d x3 x5 || k5h x3 x4 x5 x6))))))),
    ka x3 x5 ||
      (kb x3 x5 ||
        (kf x3 x5 ||
          (kj x3 x5 ||
            (ko x3 x5 ||
              (kw x3 x5 || (k19 x3 x5 || (!k1d x3 x5 || leI (0 : Int) (Prod.snd (k17 x3 x5))))))))),
    ka x3 x5 ||
      (kb x3 x5 ||
        (kf x3 x5 ||
          (kj x3 x5 ||
            (ko x3 x5 ||
              (kw x3 x5 || (k19 x3 x5 || (!k1d x3 x5 || k7i x3 x5 x7))))))),
    ka x3 x5 ||
      (kb x3 x5 ||
        (kf x3 x5 ||
          (kj x3 x5 ||
            (ko x3 x5 ||
              (kw x3 x5 ||
                (k19 x3 x5 || (!k1d x3 x5 || ltN (Int.toNat (Prod.snd (k17 x3 x5))) (List.length x7)))))))),
    ka x3 x5 ||
      (kb x3 x5 ||
        (kf x3 x5 ||
          (kj x3 x5 ||
            (ko x3 x5 ||
              (kw x3 x5 ||
                (k19 x3 x5 || (k1d x3 x5 || (!k1x x3 x5 || leI (0 : Int) (0 : Int))))))))),
    ka x3 x5 ||
      (kb x3 x5 ||
        (kf x3 x5 ||
          (kj x3 x5 ||
            (ko x3 x5 ||
              (kw x3 x5 ||
                (k19 x3 x5 || (k1d x3 x5 || (!k1x x3 x5 || k5e x3 x4 x5 x6)))))))),
    ka x3 x5 ||
      (kb x3 x5 ||
        (kf x3 x5 ||
          (kj x3 x5 ||
            (ko x3 x5 ||
              (kw x3 x5 ||
                (k19 x3 x5 || (k1d x3 x5 || (!k1x x3 x5 || k5h x3 x4 x5 x6)))))))),
    ka x3 x5 ||
      (kb x3 x5 ||
        (kf x3 x5 ||
          (kj x3 x5 ||
            (ko x3 x5 ||
              (kw x3 x5 ||
                (k19 x3 x5 ||
                  (k1d x3 x5 || (!k1x x3 x5 || leI (0 : Int) (Prod.snd (k17 x3 x5)))))))))),
    ka x3 x5 ||
      (kb x3 x5 ||
        (kf x3 x5 ||
          (kj x3 x5 ||
            (ko x3 x5 ||
              (kw x3 x5 ||
                (k19 x3 x5 ||
                  (k1d x3 x5 || (!k1x x3 x5 || ltI (Prod.snd (k17 x3 x5)) (↑(List.length x8) : Int))))))))),
    ka x3 x5 ||
      (kb x3 x5 ||
        (kf x3 x5 ||
          (kj x3 x5 ||
            (ko x3 x5 ||
              (kw x3 x5 ||
                (k19 x3 x5 ||
                  (k1d x3 x5 || (!k1x x3 x5 || ltN (Int.toNat (Prod.snd (k17 x3 x5))) (List.length x8))))))))),
    ka x3 x5 ||
      (kb x3 x5 ||
        (kf x3 x5 ||
          (kj x3 x5 ||
            (ko x3 x5 ||
              (kw x3 x5 ||
                (k19 x3 x5 ||
                  (k1d x3 x5 ||
                    (k1x x3 x5 || (!k35 x3 x5 || leI (0 : Int) (Prod.snd (k17 x3 x5))))))))))),
    ka x3 x5 ||
      (kb x3 x5 ||
        (kf x3 x5 ||
          (kj x3 x5 ||
            (ko x3 x5 ||
              (kw x3 x5 ||
                (k19 x3 x5 ||
                  (k1d x3 x5 || (k1x x3 x5 || (!k35 x3 x5 || k8j x3 x5 x10))))))))),
    ka x3 x5 ||
      (kb x3 x5 ||
        (kf x3 x5 ||
          (kj x3 x5 ||
            (ko x3 x5 ||
              (kw x3 x5 ||
                (k19 x3 x5 ||
                  (k1d x3 x5 ||
                    (k1x x3 x5 ||
                      (!k35 x3 x5 || ltN (Int.toNat (Prod.snd (k17 x3 x5))) (List.length x10)))))))))),
    ka x3 x5 ||
      (kb x3 x5 ||
        (kf x3 x5 ||
          (kj x3 x5 ||
            (ko x3 x5 ||
              (kw x3 x5 ||
                (k19 x3 x5 ||
                  (k1d x3 x5 ||
                    (k1x x3 x5 || (!k35 x3 x5 || klj (kgd x3 x5 x10) x8))))))))),
    ka x3 x5 ||
      (kb x3 x5 ||
        (kf x3 x5 ||
          (kj x3 x5 ||
            (ko x3 x5 ||
              (kw x3 x5 ||
                (k19 x3 x5 ||
                  (k1d x3 x5 ||
                    (k1x x3 x5 ||
                      (k35 x3 x5 || (!k6m x3 x5 || leI (0 : Int) (Prod.snd (k17 x3 x5)))))))))))),
    ka x3 x5 ||
      (kb x3 x5 ||
        (kf x3 x5 ||
          (kj x3 x5 ||
            (ko x3 x5 ||
              (kw x3 x5 ||
                (k19 x3 x5 ||
                  (k1d x3 x5 ||
                    (k1x x3 x5 || (k35 x3 x5 || (!k6m x3 x5 || k7i x3 x5 x7)))))))))),
    ka x3 x5 ||
      (kb x3 x5 ||
        (kf x3 x5 ||
          (kj x3 x5 ||
            (ko x3 x5 ||
              (kw x3 x5 ||
                (k19 x3 x5 ||
                  (k1d x3 x5 ||
                    (k1x x3 x5 ||
                      (k35 x3 x5 ||
                        (!k6m x3 x5 || ltN (Int.toNat (Prod.snd (k17 x3 x5))) (List.length x7))))))))))),
    ka x3 x5 ||
      (kb x3 x5 ||
        (kf x3 x5 ||
          (kj x3 x5 ||
            (ko x3 x5 ||
              (kw x3 x5 ||
                (k19 x3 x5 ||
                  (k1d x3 x5 ||
                    (k1x x3 x5 ||
                      (k35 x3 x5 || (!k6m x3 x5 || klj (kga x3 x5 x7) x8)))))))))),
    !ka x3 x5 ||
      (!kd x3 x5 ||
        leN (List.length (k1h x3 x4 x5 x6) + List.length [Prod.snd (k17 x3 x5)]) (9223372036854775807 : Nat)),
    !ka x3 x5 ||
      (!kd x3 x5 ||
        leN ((List.length (k1h x3 x4 x5 x6) + List.length [Prod.snd (k17 x3 x5)]) * (8 : Nat)) (140737488355328 : Nat)),
    ka x3 x5 ||
      (!kb x3 x5 ||
        (!kd x3 x5 ||
          leN (List.length (k1h x3 x4 x5 x6) + List.length [kgd x3 x5 x10]) (9223372036854775807 : Nat))),
    ka x3 x5 ||
      (!kb x3 x5 ||
        (!kd x3 x5 ||
          leN ((List.length (k1h x3 x4 x5 x6) + List.length [kgd x3 x5 x10]) * (8 : Nat)) (140737488355328 : Nat))),
    ka x3 x5 ||
      (kb x3 x5 ||
        (!kf x3 x5 ||
          (!kd x3 x5 ||
            leN (List.length (k1h x3 x4 x5 x6) + List.length [kga x3 x5 x7]) (9223372036854775807 : Nat)))),
    ka x3 x5 ||
      (kb x3 x5 ||
        (!kf x3 x5 ||
          (!kd x3 x5 ||
            leN ((List.length (k1h x3 x4 x5 x6) + List.length [kga x3 x5 x7]) * (8 : Nat)) (140737488355328 : Nat)))),
    ka x3 x5 ||
      (kb x3 x5 ||
        (kf x3 x5 ||
          (!kj x3 x5 ||
            (!kd x3 x5 ||
              leN (List.length (k1h x3 x4 x5 x6) + List.length (k5m x3 x4 x5 x6)) (9223372036854775807 : Nat))))),
    ka x3 x5 ||
      (kb x3 x5 ||
        (kf x3 x5 ||
          (!kj x3 x5 ||
            (!kd x3 x5 ||
              leN ((List.length (k1h x3 x4 x5 x6) + List.length (k5m x3 x4 x5 x6)) * (8 : Nat)) (140737488355328 : Nat))))),
    ka x3 x5 ||
      (kb x3 x5 ||
        (kf x3 x5 ||
          (kj x3 x5 ||
            (!ko x3 x5 ||
              (!kd x3 x5 ||
                leN (List.length (k1h x3 x4 x5 x6) + List.length (k5f x3 x4 x5 x6)) (9223372036854775807 : Nat)))))),
    ka x3 x5 ||
      (kb x3 x5 ||
        (kf x3 x5 ||
          (kj x3 x5 ||
            (!ko x3 x5 ||
              (!kd x3 x5 ||
                leN ((List.length (k1h x3 x4 x5 x6) + List.length (k5f x3 x4 x5 x6)) * (8 : Nat))
                  (140737488355328 : Nat)))))),
    ka x3 x5 ||
      (kb x3 x5 ||
        (kf x3 x5 ||
          (kj x3 x5 ||
            (ko x3 x5 ||
              (!kw x3 x5 ||
                (!kd x3 x5 ||
                  leN (List.length (k1h x3 x4 x5 x6) + List.length (k5j x3 x4 x5 x6)) (9223372036854775807 : Nat))))))),
    ka x3 x5 ||
      (kb x3 x5 ||
        (kf x3 x5 ||
          (kj x3 x5 ||
            (ko x3 x5 ||
              (!kw x3 x5 ||
                (!kd x3 x5 ||
                  leN ((List.length (k1h x3 x4 x5 x6) + List.length (k5j x3 x4 x5 x6)) * (8 : Nat))
                    (140737488355328 : Nat))))))),
    ka x3 x5 ||
      (kb x3 x5 ||
        (kf x3 x5 ||
          (kj x3 x5 ||
            (ko x3 x5 ||
              (kw x3 x5 ||
                (!k19 x3 x5 ||
                  (!kd x3 x5 ||
                    leN (List.length (k1h x3 x4 x5 x6) + List.length (k5l x3 x4 x5 x6 x9))
                      (9223372036854775807 : Nat)))))))),
    ka x3 x5 ||
      (kb x3 x5 ||
        (kf x3 x5 ||
          (kj x3 x5 ||
            (ko x3 x5 ||
              (kw x3 x5 ||
                (!k19 x3 x5 ||
                  (!kd x3 x5 ||
                    leN ((List.length (k1h x3 x4 x5 x6) + List.length (k5l x3 x4 x5 x6 x9)) * (8 : Nat))
                      (140737488355328 : Nat)))))))),
    ka x3 x5 ||
      (kb x3 x5 ||
        (kf x3 x5 ||
          (kj x3 x5 ||
            (ko x3 x5 ||
              (kw x3 x5 || (k19 x3 x5 || (!k1d x3 x5 || k5k x3 x4 x5 x6))))))),
    ka x3 x5 ||
      (kb x3 x5 ||
        (kf x3 x5 ||
          (kj x3 x5 ||
            (ko x3 x5 ||
              (kw x3 x5 || (k19 x3 x5 || (!k1d x3 x5 || k5i x3 x4 x5 x6))))))),
    ka x3 x5 ||
      (kb x3 x5 ||
        (kf x3 x5 ||
          (kj x3 x5 ||
            (ko x3 x5 ||
              (kw x3 x5 ||
                (k19 x3 x5 || (k1d x3 x5 || (!k1x x3 x5 || k5k x3 x4 x5 x6)))))))),
    ka x3 x5 ||
      (kb x3 x5 ||
        (kf x3 x5 ||
          (kj x3 x5 ||
            (ko x3 x5 ||
              (kw x3 x5 ||
                (k19 x3 x5 || (k1d x3 x5 || (!k1x x3 x5 || k5i x3 x4 x5 x6)))))))),
    ka x3 x5 ||
      (kb x3 x5 ||
        (kf x3 x5 ||
          (kj x3 x5 ||
            (ko x3 x5 ||
              (kw x3 x5 ||
                (k19 x3 x5 ||
                  (k1d x3 x5 || (k1x x3 x5 || (!k35 x3 x5 || k5k x3 x4 x5 x6))))))))),
    ka x3 x5 ||
      (kb x3 x5 ||
        (kf x3 x5 ||
          (kj x3 x5 ||
            (ko x3 x5 ||
              (kw x3 x5 ||
                (k19 x3 x5 ||
                  (k1d x3 x5 || (k1x x3 x5 || (!k35 x3 x5 || k5i x3 x4 x5 x6))))))))),
    ka x3 x5 ||
      (kb x3 x5 ||
        (kf x3 x5 ||
          (kj x3 x5 ||
            (ko x3 x5 ||
              (kw x3 x5 ||
                (k19 x3 x5 ||
                  (k1d x3 x5 ||
                    (k1x x3 x5 || (k35 x3 x5 || (!k6m x3 x5 || k5k x3 x4 x5 x6)))))))))),
    ka x3 x5 ||
      (kb x3 x5 ||
        (kf x3 x5 ||
          (kj x3 x5 ||
            (ko x3 x5 ||
              (kw x3 x5 ||
                (k19 x3 x5 ||
                  (k1d x3 x5 ||
                    (k1x x3 x5 || (k35 x3 x5 || (!k6m x3 x5 || k5i x3 x4 x5 x6)))))))))),
    ka x3 x5 ||
      (kb x3 x5 ||
        (kf x3 x5 ||
          (kj x3 x5 ||
            (ko x3 x5 ||
              (kw x3 x5 ||
                (k19 x3 x5 ||
                  (k1d x3 x5 ||
                    (k1x x3 x5 || (k35 x3 x5 || (k6m x3 x5 || k5k x3 x4 x5 x6)))))))))),
    ka x3 x5 ||
      (kb x3 x5 ||
        (kf x3 x5 ||
          (kj x3 x5 ||
            (ko x3 x5 ||
              (kw x3 x5 ||
                (k19 x3 x5 ||
                  (k1d x3 x5 ||
                    (k1x x3 x5 || (k35 x3 x5 || (k6m x3 x5 || k5i x3 x4 x5 x6))))))))))]

def k12a : List SV → List Entry → Option Out
  | [.one ⟨true, [.val (.int .i64 _x0), .val (.int .i64 _x1), .val (.int .i64 _x2), .ref 0, .ref 1]⟩, .one ⟨true, [.val (.int .i64 x3), .ref 2, .ref 3, .ref 4, .ref 5]⟩, .one ⟨false, [.ref 6]⟩], [.row false 178 (.pair (.int .i64) (.pair (.str) (.int .i64))) x4, .row false 150 (.pair (.int .i64) (.int .i64)) x5, .row false 2 (.int .i64) x6, .row false 2 (.int .i64) x7, .row false 2 (.int .i64) x8, .row false 172 (.pair (.int .i64) (.pair (.int .i64) (.int .i64))) x9, .row false 2 (.int .i64) x10] => some ⟨(.one ⟨true, [(.val (.int IntKind.i64 (kop x3 x5))), (.ref 7), (.ref 8), (.ref 9), (.ref 10)]⟩), [(.row false 178 (CTy.pair (CTy.int IntKind.i64) (CTy.pair CTy.str (CTy.int IntKind.i64))) x4), (.row false 150 (CTy.pair (CTy.int IntKind.i64) (CTy.int IntKind.i64)) x5), (.row false 2 (CTy.int IntKind.i64) x6), (.row false 2 (CTy.int IntKind.i64) x7), (.row false 2 (CTy.int IntKind.i64) x8), (.row false 172 (CTy.pair (CTy.int IntKind.i64) (CTy.pair (CTy.int IntKind.i64) (CTy.int IntKind.i64))) x9), (.row false 2 (CTy.int IntKind.i64) x10)], [(.row false 2 (CTy.int IntKind.i64) (kol x3 x4 x5 x6 x7 x9 x10)), (.row false 2 (CTy.int IntKind.i64) (kqj x3 x4 x5 x6 x7)), (.row false 2 (CTy.int IntKind.i64) (kr0 x3 x4 x5 x6 x7 x8 x10)), (.row false 172 (CTy.pair (CTy.int IntKind.i64) (CTy.pair (CTy.int IntKind.i64) (CTy.int IntKind.i64))) (kqp x3 x4 x5 x6 x9))], [(k9t x3 x4 x5 x6 x7 x8 x9 x10)]⟩
  | _, _ => none

def klp : PF Tryz.prog := PF.ofG Tryz.prog [kjb, PF.lend kjb, PF.fz kjb, kg5, PF.lend kg5, PF.fz kg5, kwy, PF.lend kwy, PF.fz kwy, kxo, PF.lend kxo, PF.fz kxo] [] hmix 122 Tryz.f122 Tryz.func122 (fun c _ => LOk.nil c) k12a (by
  intro vs es r h; unfold k12a at h; split at h
  · cases h; kernel_rfl
  · cases h)

abbrev kcd := Int × Int × Int × Int × List Int × List Int × List Int × List Int × List (Int × (Int × Int)) × List (Int × (ByteArray × Int)) × List (Int × Int)

def kqz (y0 : Int) (y10 : List (Int × Int)) : Bool :=
  ltI y0 (↑(List.length y10) : Int)

def kvn (y0 : Int) (y4 : List Int) (y5 : List Int) (y6 : List Int) (y7 : List Int) (y8 : List (Int × (Int × Int))) (y9 : List (Int × (ByteArray × Int))) (y10 : List (Int × Int)) : Bool :=
  k9t y0 y9 y10 y5 y6 y7 y8 y4

def kva (y0 : Int) (y10 : List (Int × Int)) : Int :=
  kop y0 y10

def kvj (y0 : Int) (y4 : List Int) (y5 : List Int) (y6 : List Int) (y8 : List (Int × (Int × Int))) (y9 : List (Int × (ByteArray × Int))) (y10 : List (Int × Int)) : List Int :=
  kol y0 y9 y10 y5 y6 y8 y4

def kvf (y0 : Int) (y5 : List Int) (y6 : List Int) (y9 : List (Int × (ByteArray × Int))) (y10 : List (Int × Int)) : List Int :=
  kqj y0 y9 y10 y5 y6

def kve (y0 : Int) (y4 : List Int) (y5 : List Int) (y6 : List Int) (y7 : List Int) (y9 : List (Int × (ByteArray × Int))) (y10 : List (Int × Int)) : List Int :=
  kr0 y0 y9 y10 y5 y6 y7 y4

def kvh (y0 : Int) (y5 : List Int) (y8 : List (Int × (Int × Int))) (y9 : List (Int × (ByteArray × Int))) (y10 : List (Int × Int)) : List (Int × (Int × Int)) :=
  kqp y0 y9 y10 y5 y8

def k10t : kcd → List (Nat × SV)
  | (_, _, _, _, _, _, _, _, _, _, _) => [(4, (.one ⟨false, [(.ptr 0 0)]⟩)), (3, (.one ⟨false, [(.ptr 1 0)]⟩)), (2, (.one ⟨false, [(.ref 2)]⟩))]

def k10h : kcd → List (Nat × Entry)
  | (y0, y1, y2, y3, y4, y5, y6, y7, y8, y9, y10) => [(0, (.box 77 [(.val (.int IntKind.i64 y0)), (.ref 3), (.ref 4), (.ref 5), (.ref 6)])), (1, (.box 34 [(.val (.int IntKind.i64 y1)), (.val (.int IntKind.i64 y2)), (.val (.int IntKind.i64 y3)), (.ref 7), (.ref 8)])), (2, (.row false 2 (CTy.int IntKind.i64) y4)), (7, (.row false 178 (CTy.pair (CTy.int IntKind.i64) (CTy.pair CTy.str (CTy.int IntKind.i64))) y9)), (8, (.row false 150 (CTy.pair (CTy.int IntKind.i64) (CTy.int IntKind.i64)) y10)), (3, (.row false 2 (CTy.int IntKind.i64) y5)), (4, (.row false 2 (CTy.int IntKind.i64) y6)), (5, (.row false 2 (CTy.int IntKind.i64) y7)), (6, (.row false 172 (CTy.pair (CTy.int IntKind.i64) (CTy.pair (CTy.int IntKind.i64) (CTy.int IntKind.i64))) y8))]

def k10w : Nat → kcd → List (Nat × SV)
  | _, (_, _, _, _, _, _, _, _, _, _, _) => []

def k10d : Nat → kcd → List (Nat × Entry)
  | _, (y0, y1, y2, y3, y4, y5, y6, y7, y8, y9, y10) => [(0, (.box 77 [(.val (.int IntKind.i64 y0)), (.ref 3), (.ref 4), (.ref 5), (.ref 6)])), (1, (.box 34 [(.val (.int IntKind.i64 y1)), (.val (.int IntKind.i64 y2)), (.val (.int IntKind.i64 y3)), (.ref 7), (.ref 8)])), (2, (.row false 2 (CTy.int IntKind.i64) y4)), (3, (.row false 2 (CTy.int IntKind.i64) y5)), (4, (.row false 2 (CTy.int IntKind.i64) y6)), (5, (.row false 2 (CTy.int IntKind.i64) y7)), (6, (.row false 172 (CTy.pair (CTy.int IntKind.i64) (CTy.pair (CTy.int IntKind.i64) (CTy.int IntKind.i64))) y8)), (7, (.row false 178 (CTy.pair (CTy.int IntKind.i64) (CTy.pair CTy.str (CTy.int IntKind.i64))) y9)), (8, (.row false 150 (CTy.pair (CTy.int IntKind.i64) (CTy.int IntKind.i64)) y10))]

def kqc : kcd → LT kcd
  | (y0, y1, y2, y3, y4, y5, y6, y7, y8, y9, y10) => .ite (kqz y0 y10) (.need [(kvn y0 y4 y5 y6 y7 y8 y9 y10)] (.nrm ((kva y0 y10), y1, y2, y3, y4, (kvj y0 y4 y5 y6 y8 y9 y10), (kvf y0 y5 y6 y9 y10), (kve y0 y4 y5 y6 y7 y9 y10), (kvh y0 y5 y8 y9 y10), y9, y10) [(0, 0), (1, 1), (2, 2), (3, 640), (4, 641), (5, 642), (6, 643), (7, 7), (8, 8)])) (.ext 0 [(0, 0), (1, 1), (2, 2), (3, 3), (4, 4), (5, 5), (6, 6), (7, 7), (8, 8)])

def kpr (s : St) : Option kcd :=
  (match s.look 4 with
  | some ⟨none, (.one ⟨false, [(.ptr 576 0)]⟩)⟩ =>
  (match s.look 3 with
  | some ⟨none, (.one ⟨false, [(.ptr 512 0)]⟩)⟩ =>
  (match s.look 2 with
  | some ⟨none, (.one ⟨false, [(.ref 6)]⟩)⟩ =>
  (match s.ent 576 with
  | some (.box 77 [(.val (.int IntKind.i64 y0)), (.ref 2368), (.ref 3008), (.ref 3648), (.ref 4288)]) =>
  (match s.ent 512 with
  | some (.box 34 [(.val (.int IntKind.i64 y1)), (.val (.int IntKind.i64 y2)), (.val (.int IntKind.i64 y3)), (.ref 0), (.ref 1)]) =>
  (match s.ent 6 with
  | some (.row false 2 (CTy.int IntKind.i64) y4) =>
  (match s.ent 0 with
  | some (.row false 178 (CTy.pair (CTy.int IntKind.i64) (CTy.pair CTy.str (CTy.int IntKind.i64))) y9) =>
  (match s.ent 1 with
  | some (.row false 150 (CTy.pair (CTy.int IntKind.i64) (CTy.int IntKind.i64)) y10) =>
  (match s.ent 2368 with
  | some (.row false 2 (CTy.int IntKind.i64) y5) =>
  (match s.ent 3008 with
  | some (.row false 2 (CTy.int IntKind.i64) y6) =>
  (match s.ent 3648 with
  | some (.row false 2 (CTy.int IntKind.i64) y7) =>
  (match s.ent 4288 with
  | some (.row false 172 (CTy.pair (CTy.int IntKind.i64) (CTy.pair (CTy.int IntKind.i64) (CTy.int IntKind.i64))) y8) =>
  some (y0, y1, y2, y3, y4, y5, y6, y7, y8, y9, y10)
  | _ => none)
  | _ => none)
  | _ => none)
  | _ => none)
  | _ => none)
  | _ => none)
  | _ => none)
  | _ => none)
  | _ => none)
  | _ => none)
  | _ => none)
  | _ => none)

def k7s : Lp kcd where
  h := ⟨[23, 24, 25, 26, 27, 28, 29, 30, 31, 32], [0, 1, 2, 7, 8], [3, 4, 5, 6], []⟩
  JL := k10t
  JE := k10h
  XL := k10w
  XE := k10d
  q := fun j => match j with | _ => .exit 0
  tags := [0]
  lt := kqc
  fuel := fun (y0, y1, y2, y3, y4, y5, y6, y7, y8, y9, y10) => y0.natAbs + y1.natAbs + y2.natAbs + y3.natAbs + y4.length + y5.length + y6.length + y7.length + y8.length + y9.length + y10.length
  fix := fun (_, y1, y2, y3, y4, _, _, _, _, y9, y10) (y0, _, _, _, _, y5, y6, y7, y8, _, _) => (y0, y1, y2, y3, y4, y5, y6, y7, y8, y9, y10)
  σ := [(0, 576), (1, 512), (2, 6), (7, 0), (8, 1), (3, 2368), (4, 3008), (5, 3648), (6, 4288)]
  rd := kpr
  fz := [0]

theorem kyx : LoopOk Tryz.prog (fun k => Nat.blt k Tryz.f127.ntmps) k7s.F (loopAt Tryz.f127 0) := by
  refine Lp.ok (tbl := [klp, PF.lend klp, PF.fz klp, kjb, PF.lend kjb, PF.fz kjb]) (lf := []) hmix k7s (by kernel_rfl) (LOk.nil _) (fun _ => rfl) (fun _ _ => rfl) ?_ ?_ ?_ ?_ (fun _ => rfl) ?_
  · intro x; obtain ⟨y0, y1, y2, y3, y4, y5, y6, y7, y8, y9, y10⟩ := x; kernel_rfl
  · intro x; obtain ⟨y0, y1, y2, y3, y4, y5, y6, y7, y8, y9, y10⟩ := x; kernel_rfl
  · intro s x h
    have h : kpr s = some x := h
    unfold kpr at h
    repeat' split at h
    all_goals cases h
    exact ⟨absS_cons (by assumption) rfl (absS_cons (by assumption) rfl (absS_cons (by assumption) rfl (rfl))), absE_cons rfl (by assumption) rfl (absE_cons rfl (by assumption) rfl (absE_cons rfl (by assumption) rfl (absE_cons rfl (by assumption) rfl (absE_cons rfl (by assumption) rfl (absE_cons rfl (by assumption) rfl (absE_cons rfl (by assumption) rfl (absE_cons rfl (by assumption) rfl (absE_cons rfl (by assumption) rfl (rfl)))))))))⟩
  · intro x; obtain ⟨y0, y1, y2, y3, y4, y5, y6, y7, y8, y9, y10⟩ := x; kernel_rfl
  · intro x z; obtain ⟨y0, y1, y2, y3, y4, y5, y6, y7, y8, y9, y10⟩ := x; exact (And.intro rfl trivial)

def kpp (x0 : Int) (x1 : Int) (x2 : Int) (x3 : Int) (x4 : List (Int × ByteArray × Int)) (x5 : List (Int × Int)) (x6 : List Int) (x7 : List Int) (x8 : List Int) (x9 : List (Int × Int × Int)) (x10 : List Int) : Int × Int × Int × Int × List Int × List Int × List Int × List Int × List (Int × Int × Int) × List (Int × ByteArray × Int) × List (Int × Int) :=
  (x3, x0, x1, x2, x10, x6, x7, x8, x9, x4, x5)

def ktb (x0 : Int) (x1 : Int) (x2 : Int) (x3 : Int) (x4 : List (Int × ByteArray × Int)) (x5 : List (Int × Int)) (x6 : List Int) (x7 : List Int) (x8 : List Int) (x9 : List (Int × Int × Int)) (x10 : List Int) : List Int × List Int × List Int × List (Int × Int × Int) × List (Int × ByteArray × Int) × List (Int × Int) :=
  Prod.snd (Prod.snd (Prod.snd (Prod.snd (Prod.snd (Prod.snd (Lp.res k7s (kpp x0 x1 x2 x3 x4 x5 x6 x7 x8 x9 x10)))))))

def kt9 (x0 : Int) (x1 : Int) (x2 : Int) (x3 : Int) (x4 : List (Int × ByteArray × Int)) (x5 : List (Int × Int)) (x6 : List Int) (x7 : List Int) (x8 : List Int) (x9 : List (Int × Int × Int)) (x10 : List Int) : List Int × List Int × List (Int × Int × Int) × List (Int × ByteArray × Int) × List (Int × Int) :=
  Prod.snd (ktb x0 x1 x2 x3 x4 x5 x6 x7 x8 x9 x10)

def kt6 (x0 : Int) (x1 : Int) (x2 : Int) (x3 : Int) (x4 : List (Int × ByteArray × Int)) (x5 : List (Int × Int)) (x6 : List Int) (x7 : List Int) (x8 : List Int) (x9 : List (Int × Int × Int)) (x10 : List Int) : List Int × List (Int × Int × Int) × List (Int × ByteArray × Int) × List (Int × Int) :=
  Prod.snd (kt9 x0 x1 x2 x3 x4 x5 x6 x7 x8 x9 x10)

def kuy (x0 : Int) (x1 : Int) (x2 : Int) (x3 : Int) (x4 : List (Int × ByteArray × Int)) (x5 : List (Int × Int)) (x6 : List Int) (x7 : List Int) (x8 : List Int) (x9 : List (Int × Int × Int)) (x10 : List Int) : Int :=
  Prod.fst (Prod.snd (Lp.res k7s (kpp x0 x1 x2 x3 x4 x5 x6 x7 x8 x9 x10)))

def kux (x0 : Int) (x1 : Int) (x2 : Int) (x3 : Int) (x4 : List (Int × ByteArray × Int)) (x5 : List (Int × Int)) (x6 : List Int) (x7 : List Int) (x8 : List Int) (x9 : List (Int × Int × Int)) (x10 : List Int) : List Int :=
  Prod.fst (ktb x0 x1 x2 x3 x4 x5 x6 x7 x8 x9 x10)

def ku9 (x0 : Int) (x1 : Int) (x2 : Int) (x3 : Int) (x4 : List (Int × ByteArray × Int)) (x5 : List (Int × Int)) (x6 : List Int) (x7 : List Int) (x8 : List Int) (x9 : List (Int × Int × Int)) (x10 : List Int) : List Int :=
  Prod.fst (kt9 x0 x1 x2 x3 x4 x5 x6 x7 x8 x9 x10)

def kud (x0 : Int) (x1 : Int) (x2 : Int) (x3 : Int) (x4 : List (Int × ByteArray × Int)) (x5 : List (Int × Int)) (x6 : List Int) (x7 : List Int) (x8 : List Int) (x9 : List (Int × Int × Int)) (x10 : List Int) : List Int :=
  Prod.fst (kt6 x0 x1 x2 x3 x4 x5 x6 x7 x8 x9 x10)

def ku2 (x0 : Int) (x1 : Int) (x2 : Int) (x3 : Int) (x4 : List (Int × ByteArray × Int)) (x5 : List (Int × Int)) (x6 : List Int) (x7 : List Int) (x8 : List Int) (x9 : List (Int × Int × Int)) (x10 : List Int) : List (Int × (Int × Int)) :=
  Prod.fst (Prod.snd (kt6 x0 x1 x2 x3 x4 x5 x6 x7 x8 x9 x10))

def kun (x0 : Int) (x1 : Int) (x2 : Int) (x3 : Int) (x4 : List (Int × ByteArray × Int)) (x5 : List (Int × Int)) (x6 : List Int) (x7 : List Int) (x8 : List Int) (x9 : List (Int × Int × Int)) (x10 : List Int) : Bool :=
  allT
  [leN (List.length x6) (1048576 : Nat), leN (List.length x7) (1048576 : Nat), leN (List.length x8) (1048576 : Nat),
    leN ((0 : Nat) + List.length x9) (9223372036854775807 : Nat), leN (((0 : Nat) + List.length x9) * (24 : Nat)) (140737488355328 : Nat),
    Lp.fin k7s (kpp x0 x1 x2 x3 x4 x5 x6 x7 x8 x9 x10)]

def kyl : List SV → List Entry → Option Out
  | [.one ⟨true, [.val (.int .i64 x0), .val (.int .i64 x1), .val (.int .i64 x2), .ref 0, .ref 1]⟩, .one ⟨true, [.val (.int .i64 x3), .ref 2, .ref 3, .ref 4, .ref 5]⟩, .one ⟨false, [.ref 6]⟩], [.row false 178 (.pair (.int .i64) (.pair (.str) (.int .i64))) x4, .row false 150 (.pair (.int .i64) (.int .i64)) x5, .row false 2 (.int .i64) x6, .row false 2 (.int .i64) x7, .row false 2 (.int .i64) x8, .row false 172 (.pair (.int .i64) (.pair (.int .i64) (.int .i64))) x9, .row false 2 (.int .i64) x10] => some ⟨(.one ⟨true, [(.val (.int IntKind.i64 (kuy x0 x1 x2 x3 x4 x5 x6 x7 x8 x9 x10))), (.ref 7), (.ref 8), (.ref 9), (.ref 10)]⟩), [(.row false 178 (CTy.pair (CTy.int IntKind.i64) (CTy.pair CTy.str (CTy.int IntKind.i64))) x4), (.row false 150 (CTy.pair (CTy.int IntKind.i64) (CTy.int IntKind.i64)) x5), (.row false 2 (CTy.int IntKind.i64) x6), (.row false 2 (CTy.int IntKind.i64) x7), (.row false 2 (CTy.int IntKind.i64) x8), (.row false 172 (CTy.pair (CTy.int IntKind.i64) (CTy.pair (CTy.int IntKind.i64) (CTy.int IntKind.i64))) x9), (.row false 2 (CTy.int IntKind.i64) x10)], [(.row false 2 (CTy.int IntKind.i64) (kux x0 x1 x2 x3 x4 x5 x6 x7 x8 x9 x10)), (.row false 2 (CTy.int IntKind.i64) (ku9 x0 x1 x2 x3 x4 x5 x6 x7 x8 x9 x10)), (.row false 2 (CTy.int IntKind.i64) (kud x0 x1 x2 x3 x4 x5 x6 x7 x8 x9 x10)), (.row false 172 (CTy.pair (CTy.int IntKind.i64) (CTy.pair (CTy.int IntKind.i64) (CTy.int IntKind.i64))) (ku2 x0 x1 x2 x3 x4 x5 x6 x7 x8 x9 x10))], [(kun x0 x1 x2 x3 x4 x5 x6 x7 x8 x9 x10)]⟩
  | _, _ => none

def k14d : PF Tryz.prog := PF.ofG Tryz.prog [klp, PF.lend klp, PF.fz klp, kjb, PF.lend kjb, PF.fz kjb] [(fun s => k7s.F (aliasS [(576, 1), (576, 2), (576, 3), (576, 4)] s))] hmix 127 Tryz.f127 Tryz.func127 (LOk.fnT (l := [loopAt Tryz.f127 0]) (by kernel_rfl) (.cons (kyx.alias [(576, 1), (576, 2), (576, 3), (576, 4)]) (.nil _))) kyl (by
  intro vs es r h; unfold kyl at h; split at h
  · cases h; kernel_rfl
  · cases h)

end Go.SX

namespace Go.SX
open Go.Proofs
set_option maxRecDepth 100000

def k5w (x8 : List Int) : Int :=
  Option.getD x8[Int.toNat (0 : Int)]? (0 : Int)

def k1w (x4 : Int) (x6 : List (Int × ByteArray × Int)) : Int × ByteArray × Int :=
  Option.getD x6[Int.toNat x4]? ((0 : Int), ByteArray.empty, (0 : Int))

def k18 (x4 : Int) (x13 : List (Int × Int × Int)) : Int × Int × Int :=
  Option.getD x13[Int.toNat x4]? ((0 : Int), (0 : Int), (0 : Int))

def k1f (x3 : Int) (x4 : Int) : Bool :=
  x3 == (1 : Int) || (x3 == (2 : Int) || (x3 == (3 : Int) || (x3 == (4 : Int) || (x3 == (5 : Int) || (x3 == (6 : Int) || leI (0 : Int) x4)))))

def k1n (x3 : Int) (x4 : Int) (x13 : List (Int × Int × Int)) : Bool :=
  x3 == (1 : Int) ||
  (x3 == (2 : Int) || (x3 == (3 : Int) || (x3 == (4 : Int) || (x3 == (5 : Int) || (x3 == (6 : Int) || ltI x4 (↑(List.length x13) : Int))))))

def k1m (x3 : Int) (x4 : Int) (x13 : List (Int × Int × Int)) : Bool :=
  x3 == (1 : Int) ||
  (x3 == (2 : Int) || (x3 == (3 : Int) || (x3 == (4 : Int) || (x3 == (5 : Int) || (x3 == (6 : Int) || ltN (Int.toNat x4) (List.length x13))))))

def k1j (x3 : Int) (x4 : Int) (x6 : List (Int × ByteArray × Int)) (x8 : List Int) (x9 : List Int) (x11 : List Int) (x13 : List (Int × Int × Int)) : Int :=
  bif x3 == (1 : Int) then x4
  else
  bif x3 == (2 : Int) then Option.getD x9[Int.toNat x4]? (0 : Int)
  else
    bif x3 == (3 : Int) then Option.getD x11[Int.toNat x4]? (0 : Int)
    else
      bif x3 == (4 : Int) then IntKind.wrap IntKind.i64 ((1 : Int) - k5w x8)
      else
        bif x3 == (5 : Int) then
          IntKind.wrap IntKind.i64
            (↑(BitVec.toNat
                  (BitVec.ofInt (IntKind.bits IntKind.i64) (k5w x8) &&&
                    BitVec.ofInt (IntKind.bits IntKind.i64) (Option.getD x8[Int.toNat (1 : Int)]? (0 : Int)))) :
              Int)
        else
          bif x3 == (6 : Int) then
            IntKind.wrap IntKind.i64
              (↑(BitVec.toNat
                    (BitVec.ofInt (IntKind.bits IntKind.i64) (k5w x8) |||
                      BitVec.ofInt (IntKind.bits IntKind.i64) (Option.getD x8[Int.toNat (1 : Int)]? (0 : Int)))) :
                Int)
          else
            kor (Prod.fst (k1w x4 x6))
              (Prod.snd (Prod.snd (k1w x4 x6)))
              (Prod.fst (k18 x4 x13))
              (Prod.fst (Prod.snd (k18 x4 x13)))
              (Prod.snd (Prod.snd (k18 x4 x13))) x8

def ka2 (x3 : Int) (x5 : Int) : Int :=
  bif x3 == (1 : Int) then x5
  else
  bif x3 == (2 : Int) then x5
  else bif x3 == (3 : Int) then x5 else bif x3 == (4 : Int) then x5 else bif x3 == (5 : Int) then x5 else bif x3 == (6 : Int) then x5 else x5

def ka3 (x3 : Int) (x8 : List Int) : List Int :=
  bif x3 == (1 : Int) then x8
  else
  bif x3 == (2 : Int) then x8
  else bif x3 == (3 : Int) then x8 else bif x3 == (4 : Int) then x8 else bif x3 == (5 : Int) then x8 else bif x3 == (6 : Int) then x8 else x8

def ka6 (x3 : Int) (x10 : List Int) : List Int :=
  bif x3 == (1 : Int) then x10
  else
  bif x3 == (2 : Int) then x10
  else bif x3 == (3 : Int) then x10 else bif x3 == (4 : Int) then x10 else bif x3 == (5 : Int) then x10 else bif x3 == (6 : Int) then x10 else x10

def ka4 (x3 : Int) (x11 : List Int) : List Int :=
  bif x3 == (1 : Int) then x11
  else
  bif x3 == (2 : Int) then x11
  else bif x3 == (3 : Int) then x11 else bif x3 == (4 : Int) then x11 else bif x3 == (5 : Int) then x11 else bif x3 == (6 : Int) then x11 else x11

def ka8 (x3 : Int) (x12 : List Int) : List Int :=
  bif x3 == (1 : Int) then x12
  else
  bif x3 == (2 : Int) then x12
  else bif x3 == (3 : Int) then x12 else bif x3 == (4 : Int) then x12 else bif x3 == (5 : Int) then x12 else bif x3 == (6 : Int) then x12 else x12

def k3o (x3 : Int) (x4 : Int) (x6 : List (Int × ByteArray × Int)) (x8 : List Int) (x13 : List (Int × Int × Int)) : List (Int × (Int × Int)) :=
  bif x3 == (1 : Int) then x13
  else
  bif x3 == (2 : Int) then x13
  else
    bif x3 == (3 : Int) then x13
    else
      bif x3 == (4 : Int) then x13
      else
        bif x3 == (5 : Int) then x13
        else
          bif x3 == (6 : Int) then x13
          else
            List.set x13 (Int.toNat x4)
              (kn7 (Prod.fst (k1w x4 x6))
                  (Prod.snd (Prod.snd (k1w x4 x6)))
                  (Prod.fst (k18 x4 x13))
                  (Prod.fst (Prod.snd (k18 x4 x13)))
                  (Prod.snd (Prod.snd (k18 x4 x13))) x8,
                kn3 (Prod.fst (k1w x4 x6))
                  (Prod.fst (Prod.snd (k18 x4 x13)))
                  (Prod.snd (Prod.snd (k18 x4 x13))) x8,
                kn5 (Prod.fst (k1w x4 x6))
                  (Prod.snd (Prod.snd (k1w x4 x6)))
                  (Prod.fst (k18 x4 x13))
                  (Prod.fst (Prod.snd (k18 x4 x13)))
                  (Prod.snd (Prod.snd (k18 x4 x13))) x8)

def kg (x3 : Int) (x4 : Int) (x6 : List (Int × ByteArray × Int)) (x8 : List Int) (x9 : List Int) (x11 : List Int) (x13 : List (Int × Int × Int)) : Bool :=
  allT
  [x3 == (1 : Int) || (!x3 == (2 : Int) || leI (0 : Int) x4), x3 == (1 : Int) || (!x3 == (2 : Int) || ltI x4 (↑(List.length x9) : Int)),
    x3 == (1 : Int) || (!x3 == (2 : Int) || ltN (Int.toNat x4) (List.length x9)),
    x3 == (1 : Int) || (x3 == (2 : Int) || (!x3 == (3 : Int) || leI (0 : Int) x4)),
    x3 == (1 : Int) || (x3 == (2 : Int) || (!x3 == (3 : Int) || ltI x4 (↑(List.length x11) : Int))),
    x3 == (1 : Int) || (x3 == (2 : Int) || (!x3 == (3 : Int) || ltN (Int.toNat x4) (List.length x11))),
    x3 == (1 : Int) || (x3 == (2 : Int) || (x3 == (3 : Int) || (!x3 == (4 : Int) || leI (0 : Int) (0 : Int)))),
    x3 == (1 : Int) || (x3 == (2 : Int) || (x3 == (3 : Int) || (!x3 == (4 : Int) || ltI (0 : Int) (↑(List.length x8) : Int)))),
    x3 == (1 : Int) || (x3 == (2 : Int) || (x3 == (3 : Int) || (!x3 == (4 : Int) || ltN (Int.toNat (0 : Int)) (List.length x8)))),
    x3 == (1 : Int) || (x3 == (2 : Int) || (x3 == (3 : Int) || (x3 == (4 : Int) || (!x3 == (5 : Int) || leI (0 : Int) (0 : Int))))),
    x3 == (1 : Int) || (x3 == (2 : Int) || (x3 == (3 : Int) || (x3 == (4 : Int) || (!x3 == (5 : Int) || ltI (0 : Int) (↑(List.length x8) : Int))))),
    x3 == (1 : Int) ||
      (x3 == (2 : Int) || (x3 == (3 : Int) || (x3 == (4 : Int) || (!x3 == (5 : Int) || ltN (Int.toNat (0 : Int)) (List.length x8))))),
    x3 == (1 : Int) || (x3 == (2 : Int) || (x3 == (3 : Int) || (x3 == (4 : Int) || (!x3 == (5 : Int) || leI (0 : Int) (1 : Int))))),
    x3 == (1 : Int) || (x3 == (2 : Int) || (x3 == (3 : Int) || (x3 == (4 : Int) || (!x3 == (5 : Int) || ltI (1 : Int) (↑(List.length x8) : Int))))),
    x3 == (1 : Int) ||
      (x3 == (2 : Int) || (x3 == (3 : Int) || (x3 == (4 : Int) || (!x3 == (5 : Int) || ltN (Int.toNat (1 : Int)) (List.length x8))))),
    x3 == (1 : Int) ||
      (x3 == (2 : Int) || (x3 == (3 : Int) || (x3 == (4 : Int) || (x3 == (5 : Int) || (!x3 == (6 : Int) || leI (0 : Int) (0 : Int)))))),
    x3 == (1 : Int) ||
      (x3 == (2 : Int) ||
        (x3 == (3 : Int) || (x3 == (4 : Int) || (x3 == (5 : Int) || (!x3 == (6 : Int) || ltI (0 : Int) (↑(List.length x8) : Int)))))),
    x3 == (1 : Int) ||
      (x3 == (2 : Int) ||
        (x3 == (3 : Int) || (x3 == (4 : Int) || (x3 == (5 : Int) || (!x3 == (6 : Int) || ltN (Int.toNat (0 : Int)) (List.length x8)))))),
    x3 == (1 : Int) ||
      (x3 == (2 : Int) || (x3 == (3 : Int) || (x3 == (4 : Int) || (x3 == (5 : Int) || (!x3 == (6 : Int) || leI (0 : Int) (1 : Int)))))),
    x3 == (1 : Int) ||
      (x3 == (2 : Int) ||
        (x3 == (3 : Int) || (x3 == (4 : Int) || (x3 == (5 : Int) || (!x3 == (6 : Int) || ltI (1 : Int) (↑(List.length x8) : Int)))))),
    x3 == (1 : Int) ||
      (x3 == (2 : Int) ||
        (x3 == (3 : Int) || (x3 == (4 : Int) || (x3 == (5 : Int) || (!x3 == (6 : Int) || ltN (Int.toNat (1 : Int)) (List.length x8)))))),
    k1f x3 x4,
    x3 == (1 : Int) ||
      (x3 == (2 : Int) || (x3 == (3 : Int) || (x3 == (4 : Int) || (x3 == (5 : Int) || (x3 == (6 : Int) || ltI x4 (↑(List.length x6) : Int)))))),
    x3 == (1 : Int) ||
      (x3 == (2 : Int) || (x3 == (3 : Int) || (x3 == (4 : Int) || (x3 == (5 : Int) || (x3 == (6 : Int) || ltN (Int.toNat x4) (List.length x6)))))),
    k1f x3 x4, k1n x3 x4 x13,
    k1m x3 x4 x13,
    x3 == (1 : Int) || (x3 == (2 : Int) || (x3 == (3 : Int) || (x3 == (4 : Int) || (x3 == (5 : Int) || (x3 == (6 : Int) || kom x8))))),
    k1f x3 x4, k1n x3 x4 x13,
    k1m x3 x4 x13]

def kev : List SV → List Entry → Option Out
  | [.one ⟨false, [.ptr 0 0]⟩, .one ⟨true, [.val (.int .i64 _x0), .val (.int .i64 _x1), .val (.int .i64 _x2), .ref 1, .ref 2]⟩, .one ⟨true, [.val (.int .i64 x3), .val (.int .i64 x4)]⟩, .one ⟨false, [.ref 3]⟩, .one ⟨false, [.ref 4]⟩], [.box 77 [.val (.int .i64 x5), .ref 5, .ref 6, .ref 7, .ref 8], .row false 178 (.pair (.int .i64) (.pair .str (.int .i64))) x6, .row false 150 (.pair (.int .i64) (.int .i64)) x7, .row true 2 (.int .i64) x8, .row false 2 (.int .i64) x9, .row true 2 (.int .i64) x10, .row true 2 (.int .i64) x11, .row true 2 (.int .i64) x12, .row true 172 (.pair (.int .i64) (.pair (.int .i64) (.int .i64))) x13] => some ⟨(.one ⟨false, [(.val (.int IntKind.i64 (k1j x3 x4 x6 x8 x9 x11 x13)))]⟩), [(.box 77 [(.val (.int IntKind.i64 (ka2 x3 x5))), (.ref 5), (.ref 6), (.ref 7), (.ref 8)]), (.row false 178 (CTy.pair (CTy.int IntKind.i64) (CTy.pair CTy.str (CTy.int IntKind.i64))) x6), (.row false 150 (CTy.pair (CTy.int IntKind.i64) (CTy.int IntKind.i64)) x7), (.row true 2 (CTy.int IntKind.i64) (ka3 x3 x8)), (.row false 2 (CTy.int IntKind.i64) x9), (.row true 2 (CTy.int IntKind.i64) (ka6 x3 x10)), (.row true 2 (CTy.int IntKind.i64) (ka4 x3 x11)), (.row true 2 (CTy.int IntKind.i64) (ka8 x3 x12)), (.row true 172 (CTy.pair (CTy.int IntKind.i64) (CTy.pair (CTy.int IntKind.i64) (CTy.int IntKind.i64))) (k3o x3 x4 x6 x8 x13))], [], [(kg x3 x4 x6 x8 x9 x11 x13)]⟩
  | _, _ => none

def kmf : PF Tryz.prog := PF.ofG Tryz.prog [k12m, PF.lend k12m, PF.fz k12m] [] hmix 198 Tryz.f198 Tryz.func198 (fun c _ => LOk.nil c) kev (by
  intro vs es r h; unfold kev at h; split at h
  · cases h; kernel_rfl
  · cases h)

def k97 (x3 : List Int) : Int :=
  Option.getD x3[Int.toNat (0 : Int)]? (0 : Int)

def k9v (x0 : Int) (x1 : Int) (x3 : List Int) (x6 : List Int) : List Int :=
  bif x0 == (8 : Int) then List.set x6 (Int.toNat x1) (k97 x3) else x6

def k5x (x0 : Int) (x1 : Int) (x3 : List Int) (x4 : List Int) (x6 : List Int) (x7 : List Int) : List Int :=
  bif x0 == (8 : Int) then x7
  else
  bif x0 == (9 : Int) then List.set x7 (Int.toNat x1) (k97 x3)
  else
    bif x0 == (10 : Int) then bif Option.getD x4[Int.toNat x1]? (0 : Int) == (0 : Int) then zeros (List.length x7) else x7
    else bif x0 == (11 : Int) then bif Option.getD x6[Int.toNat x1]? (0 : Int) == (0 : Int) then zeros (List.length x7) else x7 else x7

def k1g (x0 : Int) (x1 : Int) (x3 : List Int) (x4 : List Int) (x6 : List Int) (x7 : List Int) : Bool :=
  allT
  [!x0 == (8 : Int) || leI (0 : Int) (0 : Int), !x0 == (8 : Int) || ltI (0 : Int) (↑(List.length x3) : Int),
    !x0 == (8 : Int) || ltN (Int.toNat (0 : Int)) (List.length x3), !x0 == (8 : Int) || leI (0 : Int) x1,
    !x0 == (8 : Int) || ltI x1 (↑(List.length x6) : Int), !x0 == (8 : Int) || ltN (Int.toNat x1) (List.length x6),
    x0 == (8 : Int) || (!x0 == (9 : Int) || leI (0 : Int) (0 : Int)),
    x0 == (8 : Int) || (!x0 == (9 : Int) || ltI (0 : Int) (↑(List.length x3) : Int)),
    x0 == (8 : Int) || (!x0 == (9 : Int) || ltN (Int.toNat (0 : Int)) (List.length x3)), x0 == (8 : Int) || (!x0 == (9 : Int) || leI (0 : Int) x1),
    x0 == (8 : Int) || (!x0 == (9 : Int) || ltI x1 (↑(List.length x7) : Int)),
    x0 == (8 : Int) || (!x0 == (9 : Int) || ltN (Int.toNat x1) (List.length x7)),
    x0 == (8 : Int) || (x0 == (9 : Int) || (!x0 == (10 : Int) || leI (0 : Int) x1)),
    x0 == (8 : Int) || (x0 == (9 : Int) || (!x0 == (10 : Int) || ltI x1 (↑(List.length x4) : Int))),
    x0 == (8 : Int) || (x0 == (9 : Int) || (!x0 == (10 : Int) || ltN (Int.toNat x1) (List.length x4))),
    x0 == (8 : Int) || (x0 == (9 : Int) || (x0 == (10 : Int) || (!x0 == (11 : Int) || leI (0 : Int) x1))),
    x0 == (8 : Int) || (x0 == (9 : Int) || (x0 == (10 : Int) || (!x0 == (11 : Int) || ltI x1 (↑(List.length x6) : Int)))),
    x0 == (8 : Int) || (x0 == (9 : Int) || (x0 == (10 : Int) || (!x0 == (11 : Int) || ltN (Int.toNat x1) (List.length x6))))]

def ker : List SV → List Entry → Option Out
  | [.one ⟨false, [.ptr 0 0]⟩, .one ⟨true, [.val (.int .i64 x0), .val (.int .i64 x1)]⟩, .one ⟨false, [.ref 1]⟩, .one ⟨false, [.ref 2]⟩], [.box 77 [.val (.int .i64 x2), .ref 3, .ref 4, .ref 5, .ref 6], .row true 2 (.int .i64) x3, .row false 2 (.int .i64) x4, .row true 2 (.int .i64) x5, .row true 2 (.int .i64) x6, .row true 2 (.int .i64) x7, .row true 172 (.pair (.int .i64) (.pair (.int .i64) (.int .i64))) x8] => some ⟨(.tup []), [(.box 77 [(.val (.int IntKind.i64 x2)), (.ref 3), (.ref 4), (.ref 5), (.ref 6)]), (.row true 2 (CTy.int IntKind.i64) x3), (.row false 2 (CTy.int IntKind.i64) x4), (.row true 2 (CTy.int IntKind.i64) x5), (.row true 2 (CTy.int IntKind.i64) (k9v x0 x1 x3 x6)), (.row true 2 (CTy.int IntKind.i64) (k5x x0 x1 x3 x4 x6 x7)), (.row true 172 (CTy.pair (CTy.int IntKind.i64) (CTy.pair (CTy.int IntKind.i64) (CTy.int IntKind.i64))) x8)], [], [(k1g x0 x1 x3 x4 x6 x7)]⟩
  | _, _ => none

def kll : PF Tryz.prog := PF.ofG Tryz.prog [] [] hmix 199 Tryz.f199 Tryz.func199 (fun c _ => LOk.nil c) ker (by
  intro vs es r h; unfold ker at h; split at h
  · cases h; kernel_rfl
  · cases h)

def kv (x0 : List (Int × Int)) : Int :=
  (↑(List.length x0) : Int)

def klz : List SV → List Entry → Option Out
  | [.one ⟨false, [.ref 0]⟩], [.row false 150 (.pair (.int .i64) (.int .i64)) x0] => some ⟨(.one ⟨false, [(.val (.int IntKind.i64 (kv x0)))]⟩), [(.row false 150 (CTy.pair (CTy.int IntKind.i64) (CTy.int IntKind.i64)) x0)], [], []⟩
  | _, _ => none

def k2s : PF Tryz.prog := PF.ofG Tryz.prog [] [] hmix 124 Tryz.f124 Tryz.func124 (fun c _ => LOk.nil c) klz (by
  intro vs es r h; unfold klz at h; split at h
  · cases h; kernel_rfl
  · cases h)

def kqv (x0 : List Int) : Int :=
  (↑(List.length x0) : Int)

def kvk : List SV → List Entry → Option Out
  | [.one ⟨false, [.ref 0]⟩], [.row false 2 (.int .i64) x0] => some ⟨(.one ⟨false, [(.val (.int IntKind.i64 (kqv x0)))]⟩), [(.row false 2 (CTy.int IntKind.i64) x0)], [], []⟩
  | _, _ => none

def kvg : PF Tryz.prog := PF.ofG Tryz.prog [] [] hmix 197 Tryz.f197 Tryz.func197 (fun c _ => LOk.nil c) kvk (by
  intro vs es r h; unfold kvk at h; split at h
  · cases h; kernel_rfl
  · cases h)

end Go.SX

namespace Go.SX
open Go.Proofs
set_option maxRecDepth 100000

def atZ (l : List Int) (k : Int) : Int := Option.getD l[Int.toNat k]? (0 : Int)
def andI (a b : Int) : Int := bif a == 1 then b else 0
def orI (a b : Int) : Int := bif a == 1 then 1 else b
def argI (bs : List TM) (x : IN) (stk : List Int) : List Int := stk.drop (stk.length - (tkI bs x).toNat)
def rstI (bs : List TM) (x : IN) (stk : List Int) : List Int := stk.take (stk.length - (tkI bs x).toNat)
def valM (bs : List TM) (inp : List Int) (x : IN) (xs : List Int) (ss : List BS3) (ar : List Int) : Int :=
  bif x.1 == 1 then x.2 else bif x.1 == 2 then atZ inp x.2 else bif x.1 == 3 then atZ xs x.2 else bif x.1 == 4 then 1 - atZ ar 0
  else bif x.1 == 5 then andI (atZ ar 0) (atZ ar 1) else bif x.1 == 6 then orI (atZ ar 0) (atZ ar 1)
  else bif x.1 == 7 then valB (termAt bs x.2.toNat).1 (termAt bs x.2.toNat).2.2 ar (stAt ss x.2.toNat) else 0
def mskM (os : List Int) (z : Int) : List Int := bif z == 0 then List.replicate os.length 0 else os
def stkM (bs : List TM) (inp : List Int) (x : IN) (stk xs : List Int) (ss : List BS3) : List Int := bif gvI x == 1 then rstI bs x stk ++ [valM bs inp x xs ss (argI bs x stk)] else rstI bs x stk
def vlsM (bs : List TM) (x : IN) (stk xs : List Int) : List Int := bif x.1 == 8 then xs.set x.2.toNat (atZ (argI bs x stk) 0) else xs
def outM (bs : List TM) (inp : List Int) (x : IN) (stk xs os : List Int) : List Int := bif x.1 == 9 then os.set x.2.toNat (atZ (argI bs x stk) 0) else bif x.1 == 10 then mskM os (atZ inp x.2) else bif x.1 == 11 then mskM os (atZ xs x.2) else os
def blkM (bs : List TM) (x : IN) (stk : List Int) (ss : List BS3) : List BS3 := bif x.1 == 7 then ss.set x.2.toNat (nextB (termAt bs x.2.toNat).1 (termAt bs x.2.toNat).2.2 (argI bs x stk) (stAt ss x.2.toNat)) else ss

theorem k149 {i v o : Int} {bs : List TM} {x : IN} (hi : 0 ≤ i ∧ i ≤ 20) (hv : 0 ≤ v ∧ v ≤ 20) (ho : 0 ≤ o ∧ o ≤ 20) (hl : bs.length ≤ 2000) (h : fitI i v o bs x = true) :
    (x.1 = 1 ∧ (x.2 = 0 ∨ x.2 = 1)) ∨ (x.1 = 2 ∧ 0 ≤ x.2 ∧ x.2 < i) ∨ (x.1 = 3 ∧ 0 ≤ x.2 ∧ x.2 < v) ∨ x.1 = 4 ∨ x.1 = 5 ∨ x.1 = 6 ∨ (x.1 = 7 ∧ 0 ≤ x.2 ∧ x.2 < bs.length) ∨
    (x.1 = 8 ∧ 0 ≤ x.2 ∧ x.2 < v) ∨ (x.1 = 9 ∧ 0 ≤ x.2 ∧ x.2 < o) ∨ (x.1 = 10 ∧ 0 ≤ x.2 ∧ x.2 < i) ∨ (x.1 = 11 ∧ 0 ≤ x.2 ∧ x.2 < v) := by
  have w1 : IntKind.i64.wrap (i - 1) = i - 1 := wrap_i64 (by omega) (by omega)
  have w2 : IntKind.i64.wrap (v - 1) = v - 1 := wrap_i64 (by omega) (by omega)
  have w3 : IntKind.i64.wrap (o - 1) = o - 1 := wrap_i64 (by omega) (by omega)
  have w4 : IntKind.i64.wrap ((bs.length : Int) - 1) = bs.length - 1 := wrap_i64 (by omega) (by omega)
  simp only [fitI, kh7, k1u, w1, w2, w3, w4] at h
  by_cases h1 : x.1 = 1
  · simp [h1, Bool.cond_eq_ite] at h; omega
  by_cases h2 : x.1 = 2
  · simp [h2, Bool.cond_eq_ite] at h; omega
  by_cases h3 : x.1 = 3
  · simp [h3, Bool.cond_eq_ite] at h; omega
  by_cases h4 : x.1 = 4
  · omega
  by_cases h5 : x.1 = 5
  · omega
  by_cases h6 : x.1 = 6
  · omega
  by_cases h7 : x.1 = 7
  · simp [h7, Bool.cond_eq_ite] at h; omega
  by_cases h8 : x.1 = 8
  · simp [h8, Bool.cond_eq_ite] at h; omega
  by_cases h9 : x.1 = 9
  · simp [h9, Bool.cond_eq_ite] at h; omega
  by_cases h10 : x.1 = 10
  · simp [h10, Bool.cond_eq_ite] at h; omega
  by_cases h11 : x.1 = 11
  · simp [h11, Bool.cond_eq_ite] at h; omega
  simp [h1, h2, h3, h4, h5, h6, h7, h8, h9, h10, h11] at h

theorem k123 {i v o : Int} {bs : List TM} : ∀ (l1 l2 : List IN) (n : Int) (acc : List Int), hgt i v o bs (l1 ++ l2) n acc = match hgt i v o bs l1 n acc with | some (m, a) => hgt i v o bs l2 m a | none => none
  | [], l2, n, acc => rfl
  | x :: r, l2, n, acc => by
    simp only [List.cons_append, hgt]
    cases (fitI i v o bs x && (leI (tkI bs x) n && leI (n - tkI bs x + gvI x) 40)) with
    | false => rfl
    | true => simp only [cond_true]; exact k123 r l2 _ _

/-- The instruction at a place fits its height. -/
theorem hgt_at {i v o : Int} {bs : List TM} {st : List IN} (hok : hgtOk i v o bs st = true) {k : Nat} (hk : k < st.length) {n : Int} {L : List Int} (h : hgt i v o bs (st.take k) 0 [] = some (n, L)) :
    fitI i v o bs st[k] = true ∧ tkI bs st[k] ≤ n ∧ n - tkI bs st[k] + gvI st[k] ≤ 40 ∧ hgt i v o bs (st.take (k + 1)) 0 [] = some (n - tkI bs st[k] + gvI st[k], L ++ [n - tkI bs st[k] + gvI st[k]]) := by
  have hs : st = st.take k ++ st[k] :: st.drop (k + 1) := by rw [List.getElem_cons_drop, List.take_append_drop]
  have h1 := k123 (i := i) (v := v) (o := o) (bs := bs) (st.take k) (st[k] :: st.drop (k + 1)) 0 []
  rw [← hs, h] at h1
  simp only [hgt] at h1
  cases hc : (fitI i v o bs st[k] && (leI (tkI bs st[k]) n && leI (n - tkI bs st[k] + gvI st[k]) 40)) with
  | false =>
    rw [hc] at h1
    simp only [hgtOk, h1, cond_false] at hok
    cases hok
  | true =>
    have h2 := k123 (i := i) (v := v) (o := o) (bs := bs) (st.take k) [st[k]] 0 []
    rw [h] at h2
    simp only [hgt, hc, cond_true] at h2
    simp only [Bool.and_eq_true, leI_iff] at hc
    refine ⟨hc.1, hc.2.1, hc.2.2, ?_⟩
    rw [← h2, List.take_succ_eq_append_getElem hk]

/-- Heights stay in bounds. -/
theorem k16k {i v o : Int} {bs : List TM} : ∀ (l : List IN) (n : Int) (acc : List Int) (m : Int) (L : List Int), 0 ≤ n ∧ n ≤ 40 → hgt i v o bs l n acc = some (m, L) → 0 ≤ m ∧ m ≤ 40
  | [], n, acc, m, L, hn, h => by simp only [hgt, Option.some.injEq, Prod.mk.injEq] at h; omega
  | x :: r, n, acc, m, L, hn, h => by
    simp only [hgt] at h
    have hg := gvI_in x
    cases hc : (fitI i v o bs x && (leI (tkI bs x) n && leI (n - tkI bs x + gvI x) 40)) with
    | false => rw [hc] at h; cases h
    | true =>
      rw [hc, cond_true] at h
      simp only [Bool.and_eq_true, leI_iff] at hc
      exact k16k r _ _ m L (by omega) h

/-- Heights that are there stay. -/
theorem k17t {i v o : Int} {bs : List TM} : ∀ (l : List IN) (n : Int) (acc : List Int) (m : Int) (L : List Int), hgt i v o bs l n acc = some (m, L) → ∃ r, L = acc ++ r
  | [], n, acc, m, L, h => by simp only [hgt, Option.some.injEq, Prod.mk.injEq] at h; exact ⟨[], by rw [List.append_nil]; exact h.2.symm⟩
  | x :: r, n, acc, m, L, h => by
    simp only [hgt] at h
    cases hc : (fitI i v o bs x && (leI (tkI bs x) n && leI (n - tkI bs x + gvI x) 40)) with
    | false => rw [hc] at h; cases h
    | true =>
      rw [hc, cond_true] at h
      obtain ⟨q, hq⟩ := k17t r _ _ m L h
      exact ⟨(n - tkI bs x + gvI x) :: q, by rw [hq, List.append_assoc]; rfl⟩

/-- The height at a place, as the list of heights has it. -/
theorem k17x {i v o : Int} {bs : List TM} {st : List IN} (hok : hgtOk i v o bs st = true) : ∀ (k : Nat), k ≤ st.length →
    ∃ n L, hgt i v o bs (st.take k) 0 [] = some (n, L) ∧ (0 ≤ n ∧ n ≤ 40) ∧ (k = 0 → n = 0) ∧ (0 < k → atZ (hgtL i v o bs st) ((k : Int) - 1) = n)
  | 0, _ => ⟨0, [], by simp [hgt], by omega, fun _ => rfl, fun h => by omega⟩
  | k + 1, hk => by
    obtain ⟨n, L, h1, h2, _, _⟩ := k17x hok k (by omega)
    obtain ⟨g1, g2, g3, g4⟩ := hgt_at hok (k := k) (by omega) h1
    refine ⟨_, _, g4, k16k _ _ _ _ _ (by omega) g4, fun h => by omega, fun _ => ?_⟩
    have hs : st = st.take (k + 1) ++ st.drop (k + 1) := (List.take_append_drop ..).symm
    have hw := k123 (i := i) (v := v) (o := o) (bs := bs) (st.take (k + 1)) (st.drop (k + 1)) 0 []
    rw [← hs, g4] at hw
    simp only at hw
    unfold hgtL
    cases hh : hgt i v o bs st 0 [] with
    | none =>
      simp only [hgtOk, hh] at hok
      cases hok
    | some r =>
      obtain ⟨m, out⟩ := r
      rw [hh] at hw
      obtain ⟨q, hq⟩ := k17t _ _ _ _ _ hw.symm
      have hl := k173 _ _ _ _ _ h1
      rw [List.length_take, List.length_nil] at hl
      simp only [atZ]
      have hi : (((k + 1 : Nat) : Int) - 1).toNat = L.length := by omega
      rw [hi, hq, List.append_assoc, List.getElem?_append_right (Nat.le_refl _), Nat.sub_self]
      rfl

/-- A possible machine. -/
structure OkM (i v o : Int) (bs : List TM) (st : List IN) (k : Int) (stk xs os : List Int) (ss : List BS3) : Prop where
  lo : 0 ≤ k
  hi : k ≤ st.length
  hg : ∃ L, hgt i v o bs (st.take k.toNat) 0 [] = some ((stk.length : Int), L)
  bt : ∀ z ∈ stk, z = 0 ∨ z = 1
  vl : bitsB v xs = true
  ou : bitsB o os = true
  sl : ss.length = bs.length
  sp : ∀ k, k < bs.length → possAt bs ss k = true

theorem k139 {l : List Int} (h : ∀ z ∈ l, z = 0 ∨ z = 1) (k : Int) : atZ l k = 0 ∨ atZ l k = 1 := by
  unfold atZ
  cases hk : l[k.toNat]? with
  | none => exact .inl rfl
  | some z => exact h z (List.mem_of_getElem? hk)

theorem k172 {n : Int} {l : List Int} (h : bitsB n l = true) (k : Nat) {z : Int} (hz : z = 0 ∨ z = 1) : bitsB n (l.set k z) = true := by
  obtain ⟨h1, h2⟩ := keh.1 h
  refine keh.2 ⟨fun y hy => ?_, by rw [List.length_set]; exact h2⟩
  rcases List.mem_or_eq_of_mem_set hy with hy | rfl
  · exact h1 y hy
  · exact hz

theorem k16y {n : Int} {l : List Int} (h : bitsB n l = true) (z : Int) : bitsB n (mskM l z) = true := by
  unfold mskM
  cases z == 0 with
  | false => exact h
  | true =>
    refine keh.2 ⟨fun y hy => .inl (List.eq_of_mem_replicate hy), ?_⟩
    simp only [cond_true, List.length_replicate]
    exact (keh.1 h).2

/-- What a block gives is a bit. -/
theorem k18e {k n a b c : Int} {s : ByteArray} {l : List Int} (hB : blockB k s n = true) (hP : possB k n a b c = true) (hA : bitsB (takesK k) l = true) : k50 k n a b c l = 0 ∨ k50 k n a b c l = 1 := by
  obtain ⟨hk, hn, _⟩ := k14i hB
  have hb := (k14l hP hn).2.1
  have hc := (k14l hP hn).2.2
  have hp := hP
  rcases kinds hk with rfl | rfl | rfl | rfl | rfl | rfl
  · obtain ⟨x, rfl, hx⟩ := k134 hA
    rcases hx with rfl | rfl <;> simp only [k2l, k70, k95, k58, k90, k8y, k8w, k92, k7o, k50, k7e, k7l, k7d, k9q, k65, k71, k7r, k8v, k93, kb1, kb2, kay, kb0, k7m] <;> simp [Bool.cond_eq_ite] <;> (repeat' split) <;> omega
  · obtain ⟨x, rfl, hx⟩ := k134 hA
    rcases hx with rfl | rfl <;> simp only [k2l, k70, k95, k58, k90, k8y, k8w, k92, k7o, k50, k7e, k7l, k7d, k9q, k65, k71, k7r, k8v, k93, kb1, kb2, kay, kb0, k7m] <;> simp [Bool.cond_eq_ite] <;> (repeat' split) <;> omega
  · obtain ⟨x, rfl, hx⟩ := k134 hA
    simp [possB, k2u, k1u] at hp
    rcases hx with rfl | rfl <;> simp only [k2l, k70, k95, k58, k90, k8y, k8w, k92, k7o, k50, k7e, k7l, k7d, k9q, k65, k71, k7r, k8v, k93, kb1, kb2, kay, kb0, k7m] <;> simp [Bool.cond_eq_ite] <;> (repeat' split) <;> omega
  · obtain ⟨x, y, rfl, hx, hy⟩ := k12t hA
    simp [possB, k2u, k1u] at hp
    rcases hx with rfl | rfl <;> rcases hy with rfl | rfl <;> simp only [k2l, k70, k95, k58, k90, k8y, k8w, k92, k7o, k50, k7e, k7l, k7d, k9q, k65, k71, k7r, k8v, k93, kb1, kb2, kay, kb0, k7m] <;> simp [Bool.cond_eq_ite] <;> (repeat' split) <;> omega
  · obtain ⟨x, y, rfl, hx, hy⟩ := k12t hA
    rcases hb with rfl | rfl <;> rcases hc with rfl | rfl <;> rcases hx with rfl | rfl <;> rcases hy with rfl | rfl <;> simp only [k2l, k70, k95, k58, k90, k8y, k8w, k92, k7o, k50, k7e, k7l, k7d, k9q, k65, k71, k7r, k8v, k93, kb1, kb2, kay, kb0, k7m] <;> simp [Bool.cond_eq_ite] <;> (repeat' split) <;> omega
  · obtain ⟨x, y, rfl, hx, hy⟩ := k12t hA
    rcases hb with rfl | rfl <;> rcases hc with rfl | rfl <;> rcases hx with rfl | rfl <;> rcases hy with rfl | rfl <;> simp only [k2l, k70, k95, k58, k90, k8y, k8w, k92, k7o, k50, k7e, k7l, k7d, k9q, k65, k71, k7r, k8v, k93, kb1, kb2, kay, kb0, k7m] <;> simp [Bool.cond_eq_ite] <;> (repeat' split) <;> omega

theorem k188 {bs : List TM} {x : IN} {stk : List Int} (hb : ∀ z ∈ stk, z = 0 ∨ z = 1) (ht : tkI bs x ≤ stk.length) : bitsB (tkI bs x) (argI bs x stk) = true := by
  have h0 := (tkI_in bs x).1
  refine keh.2 ⟨fun z hz => hb z (List.mem_of_mem_drop hz), ?_⟩
  simp only [argI, List.length_drop]
  omega

theorem k157 {bs : List TM} {x : IN} {stk : List Int} (ht : tkI bs x ≤ stk.length) : ((rstI bs x stk).length : Int) = stk.length - tkI bs x := by
  have h0 := (tkI_in bs x).1
  simp only [rstI, List.length_take]
  omega

/-- A step of a possible machine. -/
theorem k17g {i v o : Int} {bs : List TM} {st : List IN} {inp : List Int} {k : Int} {stk xs os : List Int} {ss : List BS3} (hC : codeB i v o bs st = true) (hin : bitsB i inp = true)
    (h : OkM i v o bs st k stk xs os ss) (hlt : k < st.length) {x : IN} (hx : st[k.toNat]? = some x) :
    fitI i v o bs x = true ∧ tkI bs x ≤ stk.length ∧ bitsB (tkI bs x) (argI bs x stk) = true ∧ (valM bs inp x xs ss (argI bs x stk) = 0 ∨ valM bs inp x xs ss (argI bs x stk) = 1) ∧ stk.length ≤ 40 ∧
    OkM i v o bs st (k + 1) (stkM bs inp x stk xs ss) (vlsM bs x stk xs) (outM bs inp x stk xs os) (blkM bs x stk ss) := by
  simp only [codeB, Bool.and_eq_true] at hC
  obtain ⟨hr, hB, hok⟩ := hC
  obtain ⟨ri, rv, ro, rb, rs⟩ := kyv.1 hr
  have h0 := h.lo
  have hk : k.toNat < st.length := by omega
  have hxe : st[k.toNat] = x := by rw [List.getElem?_eq_getElem hk] at hx; exact Option.some.inj hx
  obtain ⟨L, hL⟩ := h.hg
  obtain ⟨g1, g2, g3, g4⟩ := hgt_at hok hk hL
  rw [hxe] at g1 g2 g3 g4
  have hab := k188 h.bt g2
  have hrl := k157 g2
  have t2 := tkI_in bs x
  have v2 := gvI_in x
  have hvb := (keh.1 h.vl).1
  have hob := (keh.1 h.ou).1
  have hib := (keh.1 hin).1
  have hargb := (keh.1 hab).1
  have ha0 := k139 hargb 0
  have ha1 := k139 hargb 1
  have hblk : x.1 = 7 → 0 ≤ x.2 ∧ x.2 < bs.length → k50 (termAt bs x.2.toNat).1 (termAt bs x.2.toNat).2.2 (stAt ss x.2.toNat).1 (stAt ss x.2.toNat).2.1 (stAt ss x.2.toNat).2.2 (argI bs x stk) = 0 ∨ k50 (termAt bs x.2.toNat).1 (termAt bs x.2.toNat).2.2 (stAt ss x.2.toNat).1 (stAt ss x.2.toNat).2.1 (stAt ss x.2.toNat).2.2 (argI bs x stk) = 1 := fun h7 hr7 => by
    have hlt7 : x.2.toNat < bs.length := by omega
    have hg7 : termAt bs x.2.toNat = bs[x.2.toNat] := by simp only [termAt, List.getElem?_eq_getElem hlt7]; rfl
    have hB7 : blockB (termAt bs x.2.toNat).1 (termAt bs x.2.toNat).2.1 (termAt bs x.2.toNat).2.2 = true := by rw [hg7]; exact List.all_eq_true.1 hB _ (List.getElem_mem hlt7)
    have htk : tkI bs x = takesK (termAt bs x.2.toNat).1 := by simp [tkI, k4j, ka7, kaa, keo, h7, takesK, termAt]
    exact k18e hB7 (h.sp _ hlt7) (by rw [← htk]; exact hab)
  have hnx : x.1 = 7 → 0 ≤ x.2 ∧ x.2 < bs.length → possB (termAt bs x.2.toNat).1 (termAt bs x.2.toNat).2.2 (nextB (termAt bs x.2.toNat).1 (termAt bs x.2.toNat).2.2 (argI bs x stk) (stAt ss x.2.toNat)).1 (nextB (termAt bs x.2.toNat).1 (termAt bs x.2.toNat).2.2 (argI bs x stk) (stAt ss x.2.toNat)).2.1 (nextB (termAt bs x.2.toNat).1 (termAt bs x.2.toNat).2.2 (argI bs x stk) (stAt ss x.2.toNat)).2.2 = true := fun h7 hr7 => by
    have hlt7 : x.2.toNat < bs.length := by omega
    have hg7 : termAt bs x.2.toNat = bs[x.2.toNat] := by simp only [termAt, List.getElem?_eq_getElem hlt7]; rfl
    have hB7 : blockB (termAt bs x.2.toNat).1 (termAt bs x.2.toNat).2.1 (termAt bs x.2.toNat).2.2 = true := by rw [hg7]; exact List.all_eq_true.1 hB _ (List.getElem_mem hlt7)
    have htk : tkI bs x = takesK (termAt bs x.2.toNat).1 := by simp [tkI, k4j, ka7, kaa, keo, h7, takesK, termAt]
    exact (k186 hB7 (h.sp _ hlt7) (by rw [← htk]; exact hab)).2
  have hval : valM bs inp x xs ss (argI bs x stk) = 0 ∨ valM bs inp x xs ss (argI bs x stk) = 1 := by
    rcases k149 ri rv ro rb g1 with ⟨e, q⟩ | ⟨e, q⟩ | ⟨e, q⟩ | e | e | e | ⟨e, q⟩ | ⟨e, q⟩ | ⟨e, q⟩ | ⟨e, q⟩ | ⟨e, q⟩
    · simp only [valM, e]; exact q
    · simp only [valM, e]; exact k139 hib _
    · simp only [valM, e]; exact k139 hvb _
    · simp only [valM, e]
      show 1 - atZ (argI bs x stk) 0 = 0 ∨ 1 - atZ (argI bs x stk) 0 = 1
      omega
    · simp only [valM, e]
      show andI (atZ (argI bs x stk) 0) (atZ (argI bs x stk) 1) = 0 ∨ andI (atZ (argI bs x stk) 0) (atZ (argI bs x stk) 1) = 1
      rcases ha0 with q | q <;> rw [q]
      · exact .inl rfl
      · exact ha1
    · simp only [valM, e]
      show orI (atZ (argI bs x stk) 0) (atZ (argI bs x stk) 1) = 0 ∨ orI (atZ (argI bs x stk) 0) (atZ (argI bs x stk) 1) = 1
      rcases ha0 with q | q <;> rw [q]
      · exact ha1
      · exact .inr rfl
    · have := hblk e q
      simp only [valM, e]
      exact this
    all_goals (simp only [valM, e]; exact .inl rfl)
  refine ⟨g1, g2, hab, hval, ?_, ⟨by omega, by omega, ?_, ?_, ?_, ?_, ?_, ?_⟩⟩
  · have := k16k _ _ _ _ _ (by omega) hL
    omega
  · refine ⟨L ++ [stk.length - tkI bs x + gvI x], ?_⟩
    have hs : (k + 1).toNat = k.toNat + 1 := by omega
    rw [hs, g4]
    have : ((stkM bs inp x stk xs ss).length : Int) = stk.length - tkI bs x + gvI x := by
      unfold stkM
      by_cases hgv : gvI x = 1
      · simp only [hgv, beq_self_eq_true, cond_true, List.length_append, List.length_singleton]; omega
      · have h1 : (gvI x == 1) = false := by simpa using hgv
        rw [h1, cond_false]; omega
    rw [this]
  · intro z hz
    unfold stkM at hz
    have hr : ∀ z ∈ rstI bs x stk, z = 0 ∨ z = 1 := fun z hz => h.bt z (List.mem_of_mem_take hz)
    cases hgv : (gvI x == 1) with
    | false => rw [hgv] at hz; exact hr z hz
    | true =>
      rw [hgv, cond_true] at hz
      rcases List.mem_append.1 hz with hz | hz
      · exact hr z hz
      · rw [List.mem_singleton.1 hz]; exact hval
  · unfold vlsM
    cases x.1 == 8 with
    | false => exact h.vl
    | true => exact k172 h.vl _ ha0
  · unfold outM
    cases x.1 == 9 with
    | true => exact k172 h.ou _ ha0
    | false =>
      cases x.1 == 10 with
      | true => exact k16y h.ou _
      | false =>
        cases x.1 == 11 with
        | true => exact k16y h.ou _
        | false => exact h.ou
  · unfold blkM
    cases x.1 == 7 with
    | false => exact h.sl
    | true => simp only [cond_true, List.length_set]; exact h.sl
  · intro k2 hk2
    unfold blkM
    cases h7 : x.1 == 7 with
    | false => exact h.sp k2 hk2
    | true =>
      simp only [cond_true]
      have h7 : x.1 = 7 := by simpa using h7
      have hq : 0 ≤ x.2 ∧ x.2 < bs.length := by
        rcases k149 ri rv ro rb g1 with ⟨e, q⟩ | ⟨e, q⟩ | ⟨e, q⟩ | e | e | e | ⟨e, q⟩ | ⟨e, q⟩ | ⟨e, q⟩ | ⟨e, q⟩ | ⟨e, q⟩ <;> first | exact q | omega
      by_cases he : k2 = x.2.toNat
      · subst he
        have := hnx h7 hq
        have hl : x.2.toNat < ss.length := by rw [h.sl]; omega
        unfold possAt
        have hs : stAt (ss.set x.2.toNat (nextB (termAt bs x.2.toNat).1 (termAt bs x.2.toNat).2.2 (argI bs x stk) (stAt ss x.2.toNat))) x.2.toNat = nextB (termAt bs x.2.toNat).1 (termAt bs x.2.toNat).2.2 (argI bs x stk) (stAt ss x.2.toNat) := by
          simp only [stAt, List.getElem?_set_self hl, Option.getD_some]
        rw [hs]; exact this
      · have hs : ∀ y, stAt (ss.set x.2.toNat y) k2 = stAt ss k2 := fun y => by
          simp only [stAt, List.getElem?_set_ne (Ne.symm he)]
        unfold possAt
        rw [hs]; exact h.sp k2 hk2

end Go.SX

namespace Go.SX
open Go.Proofs
set_option maxRecDepth 100000

theorem k18g (x3 x4 x5 : Int) (x6 : List TM) (x8 x9 x10 x11 x12 : List Int) (x13 : List BS3) (h : kg x3 x4 x6 x8 x9 x11 x13 = true) :
    ka2 x3 x5 = x5 ∧ ka3 x3 x8 = x8 ∧ ka6 x3 x10 = x10 ∧ ka4 x3 x11 = x11 ∧ ka8 x3 x12 = x12 ∧ kg x3 x4 x6 x8 x9 x11 x13 = true :=
  ⟨by simp only [ka2, Bool.cond_self], by simp only [ka3, Bool.cond_self], by simp only [ka6, Bool.cond_self], by simp only [ka4, Bool.cond_self], by simp only [ka8, Bool.cond_self], h⟩

def k6h : List SV → List Entry → Option Out
  | [.one ⟨false, [.ptr 0 0]⟩, .one ⟨true, [.val (.int .i64 _x0), .val (.int .i64 _x1), .val (.int .i64 _x2), .ref 1, .ref 2]⟩, .one ⟨true, [.val (.int .i64 x3), .val (.int .i64 x4)]⟩, .one ⟨false, [.ref 3]⟩, .one ⟨false, [.ref 4]⟩], [.box 77 [.val (.int .i64 x5), .ref 5, .ref 6, .ref 7, .ref 8], .row false 178 (.pair (.int .i64) (.pair .str (.int .i64))) x6, .row false 150 (.pair (.int .i64) (.int .i64)) x7, .row true 2 (.int .i64) x8, .row false 2 (.int .i64) x9, .row true 2 (.int .i64) x10, .row true 2 (.int .i64) x11, .row true 2 (.int .i64) x12, .row true 172 (.pair (.int .i64) (.pair (.int .i64) (.int .i64))) x13] => some ⟨(.one ⟨false, [(.val (.int IntKind.i64 (k1j x3 x4 x6 x8 x9 x11 x13)))]⟩), [(.box 77 [(.val (.int IntKind.i64 (x5))), (.ref 5), (.ref 6), (.ref 7), (.ref 8)]), (.row false 178 (CTy.pair (CTy.int IntKind.i64) (CTy.pair CTy.str (CTy.int IntKind.i64))) x6), (.row false 150 (CTy.pair (CTy.int IntKind.i64) (CTy.int IntKind.i64)) x7), (.row true 2 (CTy.int IntKind.i64) (x8)), (.row false 2 (CTy.int IntKind.i64) x9), (.row true 2 (CTy.int IntKind.i64) (x10)), (.row true 2 (CTy.int IntKind.i64) (x11)), (.row true 2 (CTy.int IntKind.i64) (x12)), (.row true 172 (CTy.pair (CTy.int IntKind.i64) (CTy.pair (CTy.int IntKind.i64) (CTy.int IntKind.i64))) (k3o x3 x4 x6 x8 x13))], [], [kg x3 x4 x6 x8 x9 x11 x13]⟩
  | _, _ => none

def km3 : PF Tryz.prog := PF.alt kmf k6h (by
  intro args es o h hnd; unfold k6h at h; split at h
  · rename_i _x0 _x1 _x2 x3 x4 x5 x6 x7 x8 x9 x10 x11 x12 x13
    cases h
    have hnd := nd_fst hnd
    have hh := k18g x3 x4 x5 x6 x8 x9 x10 x11 x12 x13 hnd
    obtain ⟨e1, e2, e3, e4, e5, en⟩ := hh
    exact altok rfl (nd_one en) rfl (by simp only [e1, e2, e3, e4, e5] <;> rfl) rfl
  · cases h)

def k_give : PF Tryz.prog := PF.kept km3 [0] (by
  intro args es o h
  have h : k6h args es = some o := h
  unfold k6h at h; split at h
  · cases h; exact List.forall_mem_cons.2 ⟨rfl, fun _ h => (by cases h)⟩
  · cases h)

end Go.SX

namespace Go.SX
open Go.Proofs
set_option maxRecDepth 100000

def ke (x3 : Int) (x5 : List (Int × Int)) : Int × Int :=
  Option.getD x5[Int.toNat x3]? ((0 : Int), (0 : Int))

def k1b (x3 : Int) (x5 : List (Int × Int)) : Bool :=
  k1t (Prod.fst (ke x3 x5)) == (1 : Int)

def k9s (x3 : Int) : Int :=
  IntKind.wrap IntKind.i64 (x3 + (1 : Int))

def kh (x3 : Int) (x4 : List (Int × ByteArray × Int)) (x5 : List (Int × Int)) (x7 : List Int) : Int :=
  IntKind.wrap IntKind.i64
  (kqv x7 -
    k1c (Prod.fst (ke x3 x5))
      (Prod.snd (ke x3 x5)) x4)

def kr (x3 : Int) (x4 : List (Int × ByteArray × Int)) (x5 : List (Int × Int)) (x6 : List Int) (x7 : List Int) (x8 : List Int) (x10 : List (Int × Int × Int)) : List Int :=
  [k1j (Prod.fst (ke x3 x5))
    (Prod.snd (ke x3 x5)) x4
    (List.drop (Int.toNat (kh x3 x4 x5 x7)) x7) x6 x8 x10]

def k3l (x3 : Int) (x5 : List (Int × Int)) : Int :=
  bif k1b x3 x5 then k9s x3
  else k9s x3

def k3p (x3 : Int) (x4 : List (Int × ByteArray × Int)) (x5 : List (Int × Int)) (x7 : List Int) (x8 : List Int) : List Int :=
  bif k1b x3 x5 then x8
  else
  k9v (Prod.fst (ke x3 x5))
    (Prod.snd (ke x3 x5))
    (List.drop (Int.toNat (kh x3 x4 x5 x7)) x7) x8

def k3r (x3 : Int) (x4 : List (Int × ByteArray × Int)) (x5 : List (Int × Int)) (x6 : List Int) (x7 : List Int) (x8 : List Int) (x9 : List Int) : List Int :=
  bif k1b x3 x5 then x9
  else
  k5x (Prod.fst (ke x3 x5))
    (Prod.snd (ke x3 x5))
    (List.drop (Int.toNat (kh x3 x4 x5 x7)) x7) x6 x8 x9

def k3m (x3 : Int) (x4 : List (Int × ByteArray × Int)) (x5 : List (Int × Int)) (x7 : List Int) (x10 : List (Int × Int × Int)) : List (Int × (Int × Int)) :=
  bif k1b x3 x5 then
  k3o (Prod.fst (ke x3 x5))
    (Prod.snd (ke x3 x5)) x4
    (List.drop (Int.toNat (kh x3 x4 x5 x7)) x7) x10
  else x10

def k3n (x3 : Int) (x4 : List (Int × ByteArray × Int)) (x5 : List (Int × Int)) (x6 : List Int) (x7 : List Int) (x8 : List Int) (x10 : List (Int × Int × Int)) : List Int :=
  bif k1b x3 x5 then
  List.take (Int.toNat (kh x3 x4 x5 x7)) x7 ++
    kr x3 x4 x5 x6 x7 x8 x10
  else List.take (Int.toNat (kh x3 x4 x5 x7)) x7

def ku (x3 : Int) (x4 : List (Int × ByteArray × Int)) (x5 : List (Int × Int)) (x6 : List Int) (x7 : List Int) (x8 : List Int) (x9 : List Int) (x10 : List (Int × Int × Int)) : Bool :=
  allT
  [leI (0 : Int) x3, ltI x3 (↑(List.length x5) : Int), ltN (Int.toNat x3) (List.length x5),
    k5g (Prod.fst (ke x3 x5))
      (Prod.snd (ke x3 x5)) x4,
    leI (0 : Int) (kh x3 x4 x5 x7),
    leI (kh x3 x4 x5 x7) (↑(List.length x7) : Int),
    leN (Int.toNat (kh x3 x4 x5 x7)) (List.length x7),
    leN (List.length (List.drop (Int.toNat (kh x3 x4 x5 x7)) x7)) (1048576 : Nat),
    leI (0 : Int) (kh x3 x4 x5 x7),
    leI (kh x3 x4 x5 x7) (↑(List.length x7) : Int),
    !k1b x3 x5 ||
      kg (Prod.fst (ke x3 x5))
        (Prod.snd (ke x3 x5)) x4
        (List.drop (Int.toNat (kh x3 x4 x5 x7)) x7) x6 x8 x10,
    !k1b x3 x5 ||
      leN
        (List.length (List.take (Int.toNat (kh x3 x4 x5 x7)) x7) +
          List.length (kr x3 x4 x5 x6 x7 x8 x10))
        (9223372036854775807 : Nat),
    !k1b x3 x5 ||
      leN
        ((List.length (List.take (Int.toNat (kh x3 x4 x5 x7)) x7) +
            List.length (kr x3 x4 x5 x6 x7 x8 x10)) *
          (8 : Nat))
        (140737488355328 : Nat),
    k1b x3 x5 ||
      k1g (Prod.fst (ke x3 x5))
        (Prod.snd (ke x3 x5))
        (List.drop (Int.toNat (kh x3 x4 x5 x7)) x7) x6 x8 x9]

def kf2 : List SV → List Entry → Option Out
  | [.one ⟨false, [.ptr 0 0]⟩, .one ⟨true, [.val (.int .i64 _x0), .val (.int .i64 _x1), .val (.int .i64 _x2), .ref 1, .ref 2]⟩, .one ⟨false, [.ref 3]⟩], [.box 77 [.val (.int .i64 x3), .ref 4, .ref 5, .ref 6, .ref 7], .row false 178 (.pair (.int .i64) (.pair .str (.int .i64))) x4, .row false 150 (.pair (.int .i64) (.int .i64)) x5, .row false 2 (.int .i64) x6, .row true 2 (.int .i64) x7, .row true 2 (.int .i64) x8, .row true 2 (.int .i64) x9, .row true 172 (.pair (.int .i64) (.pair (.int .i64) (.int .i64))) x10] => some ⟨(.tup []), [(.box 77 [(.val (.int IntKind.i64 (k3l x3 x5))), (.ref 8), (.ref 5), (.ref 6), (.ref 7)]), (.row false 178 (CTy.pair (CTy.int IntKind.i64) (CTy.pair CTy.str (CTy.int IntKind.i64))) x4), (.row false 150 (CTy.pair (CTy.int IntKind.i64) (CTy.int IntKind.i64)) x5), (.row false 2 (CTy.int IntKind.i64) x6), .gone, (.row true 2 (CTy.int IntKind.i64) (k3p x3 x4 x5 x7 x8)), (.row true 2 (CTy.int IntKind.i64) (k3r x3 x4 x5 x6 x7 x8 x9)), (.row true 172 (CTy.pair (CTy.int IntKind.i64) (CTy.pair (CTy.int IntKind.i64) (CTy.int IntKind.i64))) (k3m x3 x4 x5 x7 x10))], [(.row true 2 (CTy.int IntKind.i64) (k3n x3 x4 x5 x6 x7 x8 x10))], [(ku x3 x4 x5 x6 x7 x8 x9 x10)]⟩
  | _, _ => none

def kab : PF Tryz.prog := PF.ofG Tryz.prog [PF.views Tryz.prog, kao, PF.lend kao, PF.lend (PF.view kao), k2g, PF.lend k2g, kvg, PF.lend kvg, k_give, kll] [] hmix 126 Tryz.f126 Tryz.func126 (fun c _ => LOk.nil c) kf2 (by
  intro vs es r h; unfold kf2 at h; split at h
  · cases h; kernel_rfl
  · cases h)

end Go.SX

namespace Go.SX
open Go.Proofs
set_option maxRecDepth 100000

theorem k17h {a b : Int} (ha : a = 0 ∨ a = 1) (hb : b = 0 ∨ b = 1) : IntKind.i64.wrap ((BitVec.toNat (BitVec.ofInt (IntKind.bits IntKind.i64) a &&& BitVec.ofInt (IntKind.bits IntKind.i64) b) : Nat) : Int) = andI a b := by
  rcases ha with rfl | rfl <;> rcases hb with rfl | rfl <;> rfl
theorem k17u {a b : Int} (ha : a = 0 ∨ a = 1) (hb : b = 0 ∨ b = 1) : IntKind.i64.wrap ((BitVec.toNat (BitVec.ofInt (IntKind.bits IntKind.i64) a ||| BitVec.ofInt (IntKind.bits IntKind.i64) b) : Nat) : Int) = orI a b := by
  rcases ha with rfl | rfl <;> rcases hb with rfl | rfl <;> rfl
theorem k180 {a : Int} (ha : a = 0 ∨ a = 1) : IntKind.i64.wrap (1 - a) = 1 - a := by rcases ha with rfl | rfl <;> rfl

theorem k17w {bs : List TM} {x : IN} {stk : List Int} (h : bitsB (tkI bs x) (argI bs x stk) = true) : ((argI bs x stk).length : Int) = tkI bs x := (keh.1 h).2

/-- What an instruction takes and gives. -/
theorem tk_of {bs : List TM} {x : IN} : (x.1 = 4 → tkI bs x = 1) ∧ (x.1 = 5 → tkI bs x = 2) ∧ (x.1 = 6 → tkI bs x = 2) ∧ (x.1 = 8 → tkI bs x = 1) ∧ (x.1 = 9 → tkI bs x = 1) ∧ (x.1 = 7 → tkI bs x = takesK (termAt bs x.2.toNat).1) := by
  refine ⟨fun h => ?_, fun h => ?_, fun h => ?_, fun h => ?_, fun h => ?_, fun h => ?_⟩ <;> simp [tkI, k4j, ka7, kaa, keo, h, takesK, termAt]

theorem gv_of {x : IN} : ((x.1 = 1 ∨ x.1 = 2 ∨ x.1 = 3 ∨ x.1 = 4 ∨ x.1 = 5 ∨ x.1 = 6 ∨ x.1 = 7) → gvI x = 1) ∧ ((x.1 = 8 ∨ x.1 = 9 ∨ x.1 = 10 ∨ x.1 = 11) → gvI x = 0) := by
  refine ⟨fun h => ?_, fun h => ?_⟩
  · rcases h with h | h | h | h | h | h | h <;> simp [gvI, k7u, ka7, kaa, keo, h]
  · rcases h with h | h | h | h <;> simp [gvI, k7u, ka7, kaa, keo, h]

/-- The reference's step. -/
theorem specStep {i v o : Int} {bs : List TM} {st : List IN} {inp : List Int} {k : Int} {stk xs os : List Int} {ss : List BS3} (hC : codeB i v o bs st = true) (hin : bitsB i inp = true)
    (h : OkM i v o bs st k stk xs os ss) (hlt : k < st.length) {x : IN} (hx : st[k.toNat]? = some x) :
    kop k st = k + 1 ∧ kol k bs st stk xs ss inp = stkM bs inp x stk xs ss ∧ kqj k bs st stk xs = vlsM bs x stk xs ∧
    kr0 k bs st stk xs os inp = outM bs inp x stk xs os ∧ kqp k bs st stk ss = blkM bs x stk ss ∧ k9t k bs st stk xs os ss inp = true := by
  obtain ⟨g1, g2, g3, g4, g5, _⟩ := k17g hC hin h hlt hx
  simp only [codeB, Bool.and_eq_true] at hC
  obtain ⟨hr, hB, hok⟩ := hC
  obtain ⟨ri, rv, ro, rb, rs⟩ := kyv.1 hr
  have h0 := h.lo
  have t2 := tkI_in bs x
  have hxl := (keh.1 h.vl).2
  have hol := (keh.1 h.ou).2
  have hil := (keh.1 hin).2
  have hsl := h.sl
  have hargb := (keh.1 g3).1
  have hal := k17w g3
  have ha0 := k139 hargb 0
  have ha1 := k139 hargb 1
  have e0 : k17 k st = x := by simp only [k17, hx, Option.getD_some]
  have w3 : IntKind.i64.wrap (k + 1) = k + 1 := wrap_i64 (by omega) (by omega)
  have e14 : kgf k bs st stk = stk.length - tkI bs x := by
    simp only [kgf, e0]
    exact wrap_i64 (by have : k4j x.1 x.2 bs = tkI bs x := rfl; omega) (by have : k4j x.1 x.2 bs = tkI bs x := rfl; omega)
  have en : (((stk.length : Int) - tkI bs x)).toNat = stk.length - (tkI bs x).toNat := by omega
  have e15 : k1h k bs st stk = rstI bs x stk := by simp only [k1h, e14, en, rstI]; rfl
  have e18 : k6l k bs st stk = argI bs x stk := by simp only [k6l, e14, en, argI, Int.toNat_natCast, List.take_length]
  have e19 : khv k bs st stk = atZ (argI bs x stk) 0 := by simp only [khv, e18, atZ]
  have e20 : ∀ d : Int, Option.getD (argI bs x stk)[Int.toNat (1 : Int)]? d = Option.getD (argI bs x stk)[Int.toNat (1 : Int)]? d := fun _ => rfl
  have hl1 : leN (rstI bs x stk).length 1048576 = true := leN_t (by have := k157 g2; omega)
  have hl2 : leN (argI bs x stk).length 1048576 = true := leN_t (by omega)
  have hl3 : leN xs.length 1048576 = true := leN_t (by omega)
  have hl4 : leN os.length 1048576 = true := leN_t (by omega)
  have hl5 : leN (0 + ss.length) 9223372036854775807 = true := leN_t (by omega)
  have hl6 : leN ((0 + ss.length) * 24) 140737488355328 = true := leN_t (by omega)
  have hl7 : leN ((rstI bs x stk).length + 1) 9223372036854775807 = true := leN_t (by have := k157 g2; omega)
  have hl8 : leN (((rstI bs x stk).length + 1) * 8) 140737488355328 = true := leN_t (by have := k157 g2; omega)
  have n1 : leI 0 k = true := leI_t h0
  have n2 : ltI k (st.length : Int) = true := ltI_t hlt
  have n3 : ltN k.toNat st.length = true := ltN_t (by omega)
  have n4 : khd x.1 x.2 bs = true := fit_nd rb g1
  have n5 : leI 0 ((stk.length : Int) - tkI bs x) = true := leI_t (by omega)
  have n6 : leI ((stk.length : Int) - tkI bs x) (stk.length : Int) = true := leI_t (by omega)
  have n7 : ∀ n : Nat, leI (n : Int) (n : Int) = true := fun n => leI_t (by omega)
  have key : ∀ c : Int, x.1 = c → ka k st = (c == 1) ∧ kb k st = (c == 2) ∧ kf k st = (c == 3) ∧ kj k st = (c == 4) ∧ ko k st = (c == 5) ∧ kw k st = (c == 6) ∧
      k19 k st = (c == 7) ∧ k1d k st = (c == 8) ∧ k1x k st = (c == 9) ∧ k35 k st = (c == 10) ∧ k6m k st = (c == 11) ∧ kd k st = (gvI x == 1) := by
    intro c hc
    have h2 : k7u c = gvI x := by rw [← hc]; rfl
    refine ⟨?_, ?_, ?_, ?_, ?_, ?_, ?_, ?_, ?_, ?_, ?_, ?_⟩ <;> simp only [ka, kd, kb, kf, kj, ko, kw, k19, k1d, k1x, k35, k6m, e0, hc, h2]
  obtain ⟨tk4, tk5, tk6, tk8, tk9, tk7⟩ := tk_of (bs := bs) (x := x)
  obtain ⟨gv1, gv0⟩ := gv_of (x := x)
  have hB7 : x.1 = 7 → 0 ≤ x.2 ∧ x.2 < bs.length → blockB (termAt bs x.2.toNat).1 (termAt bs x.2.toNat).2.1 (termAt bs x.2.toNat).2.2 = true := fun _ hq => by
    have hlt7 : x.2.toNat < bs.length := by omega
    have hg7 : termAt bs x.2.toNat = bs[x.2.toNat] := by simp only [termAt, List.getElem?_eq_getElem hlt7]; rfl
    rw [hg7]; exact List.all_eq_true.1 hB _ (List.getElem_mem hlt7)
  have hs0 : kop k st = k + 1 := by simp only [kop, k2t, w3, Bool.cond_self]
  have hmask : ∀ (l : List Int) (z : Int), klh z l = mskM l z := fun l z => by simp only [klh, mskM, Int.toNat_natCast]
  have hcs := k149 ri rv ro rb g1
  have a16 : kgd k st inp = atZ inp x.2 := by simp only [kgd, e0, atZ]
  have a17 : kga k st xs = atZ xs x.2 := by simp only [kga, e0, atZ]
  have a23 : kel k bs st = termAt bs x.2.toNat := by simp only [kel, e0, termAt]
  have a24 : ka5 k st ss = stAt ss x.2.toNat := by simp only [ka5, e0, stAt]
  have a27 : krb k bs st stk xs = xs.set x.2.toNat (atZ (argI bs x stk) 0) := by simp only [krb, e0, e19]
  have a28 : kqk k bs st stk os = os.set x.2.toNat (atZ (argI bs x stk) 0) := by simp only [kqk, e0, e19]
  have a20 : k5m k bs st stk = [1 - atZ (argI bs x stk) 0] := by simp only [k5m, e19, k180 ha0]
  have a21 : k5f k bs st stk = [andI (atZ (argI bs x stk) 0) (atZ (argI bs x stk) 1)] := by
    simp only [k5f, e19, e18]
    exact congrArg (fun z => [z]) (k17h ha0 ha1)
  have a22 : k5j k bs st stk = [orI (atZ (argI bs x stk) 0) (atZ (argI bs x stk) 1)] := by
    simp only [k5j, e19, e18]
    exact congrArg (fun z => [z]) (k17u ha0 ha1)
  have a25 : k5l k bs st stk ss = [valB (termAt bs x.2.toNat).1 (termAt bs x.2.toNat).2.2 (argI bs x stk) (stAt ss x.2.toNat)] := by simp only [k5l, a23, a24, e18, valB]
  have a29 : kr7 k bs st stk ss = ss.set x.2.toNat (nextB (termAt bs x.2.toNat).1 (termAt bs x.2.toNat).2.2 (argI bs x stk) (stAt ss x.2.toNat)) := by simp only [kr7, a23, a24, e18, e0, nextB]
  refine ⟨hs0, ?_, ?_, ?_, ?_, ?_⟩
  · rcases hcs with ⟨e, q⟩ | ⟨e, q⟩ | ⟨e, q⟩ | e | e | e | ⟨e, q⟩ | ⟨e, q⟩ | ⟨e, q⟩ | ⟨e, q⟩ | ⟨e, q⟩ <;> (
      obtain ⟨k1, k4, k5, k6, k7, k8, k9, k10, k11, k12, k13, k2⟩ := key _ e
      first
      | (have gv : gvI x = 1 := gv1 (by omega)
         simp [kol, khw, stkM, valM, k1, k2, k4, k5, k6, k7, k8, k9, k10, k11, k12, k13, e0, e15, a16, a17, a20, a21, a22, a25, e, gv])
      | (have gv : gvI x = 0 := gv0 (by omega)
         simp [kol, khw, stkM, valM, k1, k2, k4, k5, k6, k7, k8, k9, k10, k11, k12, k13, e0, e15, a16, a17, a20, a21, a22, a25, e, gv]))
  · rcases hcs with ⟨e, q⟩ | ⟨e, q⟩ | ⟨e, q⟩ | e | e | e | ⟨e, q⟩ | ⟨e, q⟩ | ⟨e, q⟩ | ⟨e, q⟩ | ⟨e, q⟩ <;> (
      obtain ⟨k1, k4, k5, k6, k7, k8, k9, k10, k11, k12, k13, k2⟩ := key _ e
      simp [kqj, vlsM, Bool.cond_self, k1, k4, k5, k6, k7, k8, k9, k10, k11, k12, k13, a27, e])
  · rcases hcs with ⟨e, q⟩ | ⟨e, q⟩ | ⟨e, q⟩ | e | e | e | ⟨e, q⟩ | ⟨e, q⟩ | ⟨e, q⟩ | ⟨e, q⟩ | ⟨e, q⟩ <;> (
      obtain ⟨k1, k4, k5, k6, k7, k8, k9, k10, k11, k12, k13, k2⟩ := key _ e
      simp [kr0, outM, Bool.cond_self, k1, k4, k5, k6, k7, k8, k9, k10, k11, k12, k13, a28, a16, a17, hmask, e])
  · rcases hcs with ⟨e, q⟩ | ⟨e, q⟩ | ⟨e, q⟩ | e | e | e | ⟨e, q⟩ | ⟨e, q⟩ | ⟨e, q⟩ | ⟨e, q⟩ | ⟨e, q⟩ <;> (
      obtain ⟨k1, k4, k5, k6, k7, k8, k9, k10, k11, k12, k13, k2⟩ := key _ e
      simp [kqp, blkM, Bool.cond_self, k1, k4, k5, k6, k7, k8, k9, k10, k11, k12, k13, a29, e])
  · rcases hcs with ⟨e, q⟩ | ⟨e, q⟩ | ⟨e, q⟩ | e | e | e | ⟨e, q⟩ | ⟨e, q⟩ | ⟨e, q⟩ | ⟨e, q⟩ | ⟨e, q⟩
    · obtain ⟨k1, k4, k5, k6, k7, k8, k9, k10, k11, k12, k13, k2⟩ := key _ e
      have z0 : leI (0 : Int) 0 = true := rfl
      have z1 : leI (0 : Int) 1 = true := rfl
      simp [k9t, allT, k1, k2, k4, k5, k6, k7, k8, k9, k10, k11, k12, k13, e0, e14, e15, e18, n1, n2, n3, n4, n5, n6, n7, hl1, hl2, hl3, hl4, hl5, hl6, hl7, hl8, k5m, k5f, k5j, k5l, k8j, k7i, k5e, k5h, k8i, k8h, k7j, k8q, k8l, k5k, k5i, List.length_singleton, z0, z1] <;> omega
    · obtain ⟨k1, k4, k5, k6, k7, k8, k9, k10, k11, k12, k13, k2⟩ := key _ e
      have z0 : leI (0 : Int) 0 = true := rfl
      have z1 : leI (0 : Int) 1 = true := rfl
      have r1 : leI 0 x.2 = true := leI_t (by omega)
      have r2 : ltI x.2 (inp.length : Int) = true := ltI_t (by omega)
      have r3 : ltN x.2.toNat inp.length = true := ltN_t (by omega)
      simp [k9t, allT, k1, k2, k4, k5, k6, k7, k8, k9, k10, k11, k12, k13, e0, e14, e15, e18, n1, n2, n3, n4, n5, n6, n7, hl1, hl2, hl3, hl4, hl5, hl6, hl7, hl8, k5m, k5f, k5j, k5l, k8j, k7i, k5e, k5h, k8i, k8h, k7j, k8q, k8l, k5k, k5i, List.length_singleton, z0, z1, r1, r2, r3] <;> omega
    · obtain ⟨k1, k4, k5, k6, k7, k8, k9, k10, k11, k12, k13, k2⟩ := key _ e
      have z0 : leI (0 : Int) 0 = true := rfl
      have z1 : leI (0 : Int) 1 = true := rfl
      have r1 : leI 0 x.2 = true := leI_t (by omega)
      have r2 : ltI x.2 (xs.length : Int) = true := ltI_t (by omega)
      have r3 : ltN x.2.toNat xs.length = true := ltN_t (by omega)
      simp [k9t, allT, k1, k2, k4, k5, k6, k7, k8, k9, k10, k11, k12, k13, e0, e14, e15, e18, n1, n2, n3, n4, n5, n6, n7, hl1, hl2, hl3, hl4, hl5, hl6, hl7, hl8, k5m, k5f, k5j, k5l, k8j, k7i, k5e, k5h, k8i, k8h, k7j, k8q, k8l, k5k, k5i, List.length_singleton, z0, z1, r1, r2, r3] <;> omega
    · obtain ⟨k1, k4, k5, k6, k7, k8, k9, k10, k11, k12, k13, k2⟩ := key _ e
      have z0 : leI (0 : Int) 0 = true := rfl
      have z1 : leI (0 : Int) 1 = true := rfl
      have tk := tk4 e
      have s1 : ltI 0 ((argI bs x stk).length : Int) = true := ltI_t (by omega)
      have s2 : ltN (Int.toNat 0) (argI bs x stk).length = true := ltN_t (by simp only [Int.toNat_zero]; omega)
      simp [k9t, allT, k1, k2, k4, k5, k6, k7, k8, k9, k10, k11, k12, k13, e0, e14, e15, e18, n1, n2, n3, n4, n5, n6, n7, hl1, hl2, hl3, hl4, hl5, hl6, hl7, hl8, k5m, k5f, k5j, k5l, k8j, k7i, k5e, k5h, k8i, k8h, k7j, k8q, k8l, k5k, k5i, List.length_singleton, z0, z1, s1, s2] <;> omega
    · obtain ⟨k1, k4, k5, k6, k7, k8, k9, k10, k11, k12, k13, k2⟩ := key _ e
      have z0 : leI (0 : Int) 0 = true := rfl
      have z1 : leI (0 : Int) 1 = true := rfl
      have tk := tk5 e
      have s1 : ltI 0 ((argI bs x stk).length : Int) = true := ltI_t (by omega)
      have s2 : ltN (Int.toNat 0) (argI bs x stk).length = true := ltN_t (by simp only [Int.toNat_zero]; omega)
      have s3 : ltI 1 ((argI bs x stk).length : Int) = true := ltI_t (by omega)
      have s4 : ltN (Int.toNat 1) (argI bs x stk).length = true := ltN_t (by rw [show Int.toNat 1 = 1 from rfl]; omega)
      simp [k9t, allT, k1, k2, k4, k5, k6, k7, k8, k9, k10, k11, k12, k13, e0, e14, e15, e18, n1, n2, n3, n4, n5, n6, n7, hl1, hl2, hl3, hl4, hl5, hl6, hl7, hl8, k5m, k5f, k5j, k5l, k8j, k7i, k5e, k5h, k8i, k8h, k7j, k8q, k8l, k5k, k5i, List.length_singleton, z0, z1, s1, s2, s3, s4] <;> omega
    · obtain ⟨k1, k4, k5, k6, k7, k8, k9, k10, k11, k12, k13, k2⟩ := key _ e
      have z0 : leI (0 : Int) 0 = true := rfl
      have z1 : leI (0 : Int) 1 = true := rfl
      have tk := tk6 e
      have s1 : ltI 0 ((argI bs x stk).length : Int) = true := ltI_t (by omega)
      have s2 : ltN (Int.toNat 0) (argI bs x stk).length = true := ltN_t (by simp only [Int.toNat_zero]; omega)
      have s3 : ltI 1 ((argI bs x stk).length : Int) = true := ltI_t (by omega)
      have s4 : ltN (Int.toNat 1) (argI bs x stk).length = true := ltN_t (by rw [show Int.toNat 1 = 1 from rfl]; omega)
      simp [k9t, allT, k1, k2, k4, k5, k6, k7, k8, k9, k10, k11, k12, k13, e0, e14, e15, e18, n1, n2, n3, n4, n5, n6, n7, hl1, hl2, hl3, hl4, hl5, hl6, hl7, hl8, k5m, k5f, k5j, k5l, k8j, k7i, k5e, k5h, k8i, k8h, k7j, k8q, k8l, k5k, k5i, List.length_singleton, z0, z1, s1, s2, s3, s4] <;> omega
    · obtain ⟨k1, k4, k5, k6, k7, k8, k9, k10, k11, k12, k13, k2⟩ := key _ e
      have z0 : leI (0 : Int) 0 = true := rfl
      have z1 : leI (0 : Int) 1 = true := rfl
      have r1 : leI 0 x.2 = true := leI_t (by omega)
      have r2 : ltI x.2 (bs.length : Int) = true := ltI_t (by omega)
      have r3 : ltN x.2.toNat bs.length = true := ltN_t (by omega)
      have r4 : ltI x.2 (ss.length : Int) = true := ltI_t (by omega)
      have r5 : ltN x.2.toNat ss.length = true := ltN_t (by omega)
      have r6 := (k17b (hB7 e q) (h.sp x.2.toNat (by omega)) (by rw [← tk7 e]; exact g3)).2.2.2.2.2.1
      simp [k9t, allT, k1, k2, k4, k5, k6, k7, k8, k9, k10, k11, k12, k13, e0, e14, e15, e18, n1, n2, n3, n4, n5, n6, n7, hl1, hl2, hl3, hl4, hl5, hl6, hl7, hl8, k5m, k5f, k5j, k5l, k8j, k7i, k5e, k5h, k8i, k8h, k7j, k8q, k8l, k5k, k5i, List.length_singleton, z0, z1, r1, r2, r3, r4, r5, r6] <;> omega
    · obtain ⟨k1, k4, k5, k6, k7, k8, k9, k10, k11, k12, k13, k2⟩ := key _ e
      have z0 : leI (0 : Int) 0 = true := rfl
      have z1 : leI (0 : Int) 1 = true := rfl
      have tk := tk8 e
      have s1 : ltI 0 ((argI bs x stk).length : Int) = true := ltI_t (by omega)
      have s2 : ltN (Int.toNat 0) (argI bs x stk).length = true := ltN_t (by simp only [Int.toNat_zero]; omega)
      have r1 : leI 0 x.2 = true := leI_t (by omega)
      have r2 : ltI x.2 (xs.length : Int) = true := ltI_t (by omega)
      have r3 : ltN x.2.toNat xs.length = true := ltN_t (by omega)
      simp [k9t, allT, k1, k2, k4, k5, k6, k7, k8, k9, k10, k11, k12, k13, e0, e14, e15, e18, n1, n2, n3, n4, n5, n6, n7, hl1, hl2, hl3, hl4, hl5, hl6, hl7, hl8, k5m, k5f, k5j, k5l, k8j, k7i, k5e, k5h, k8i, k8h, k7j, k8q, k8l, k5k, k5i, List.length_singleton, z0, z1, s1, s2, r1, r2, r3] <;> omega
    · obtain ⟨k1, k4, k5, k6, k7, k8, k9, k10, k11, k12, k13, k2⟩ := key _ e
      have z0 : leI (0 : Int) 0 = true := rfl
      have z1 : leI (0 : Int) 1 = true := rfl
      have tk := tk9 e
      have s1 : ltI 0 ((argI bs x stk).length : Int) = true := ltI_t (by omega)
      have s2 : ltN (Int.toNat 0) (argI bs x stk).length = true := ltN_t (by simp only [Int.toNat_zero]; omega)
      have r1 : leI 0 x.2 = true := leI_t (by omega)
      have r2 : ltI x.2 (os.length : Int) = true := ltI_t (by omega)
      have r3 : ltN x.2.toNat os.length = true := ltN_t (by omega)
      simp [k9t, allT, k1, k2, k4, k5, k6, k7, k8, k9, k10, k11, k12, k13, e0, e14, e15, e18, n1, n2, n3, n4, n5, n6, n7, hl1, hl2, hl3, hl4, hl5, hl6, hl7, hl8, k5m, k5f, k5j, k5l, k8j, k7i, k5e, k5h, k8i, k8h, k7j, k8q, k8l, k5k, k5i, List.length_singleton, z0, z1, s1, s2, r1, r2, r3] <;> omega
    · obtain ⟨k1, k4, k5, k6, k7, k8, k9, k10, k11, k12, k13, k2⟩ := key _ e
      have z0 : leI (0 : Int) 0 = true := rfl
      have z1 : leI (0 : Int) 1 = true := rfl
      have m1 : ∀ z : Int, klj z os = true := fun z => by
        have q1 : leI (0 : Int) (os.length : Int) = true := leI_t (by omega)
        have q2 : leI (((8 : Nat) : Int) * (os.length : Int)) 281474976710656 = true := leI_t (by omega)
        have q3 : leI (os.length : Int) 9223372036854775807 = true := leI_t (by omega)
        simp only [klj, q1, q2, q3, n7, allT, Bool.or_true, cond_true]
      have r1 : leI 0 x.2 = true := leI_t (by omega)
      have r2 : ltI x.2 (inp.length : Int) = true := ltI_t (by omega)
      have r3 : ltN x.2.toNat inp.length = true := ltN_t (by omega)
      simp [k9t, allT, k1, k2, k4, k5, k6, k7, k8, k9, k10, k11, k12, k13, e0, e14, e15, e18, n1, n2, n3, n4, n5, n6, n7, hl1, hl2, hl3, hl4, hl5, hl6, hl7, hl8, k5m, k5f, k5j, k5l, k8j, k7i, k5e, k5h, k8i, k8h, k7j, k8q, k8l, k5k, k5i, List.length_singleton, z0, z1, m1, r1, r2, r3] <;> omega
    · obtain ⟨k1, k4, k5, k6, k7, k8, k9, k10, k11, k12, k13, k2⟩ := key _ e
      have z0 : leI (0 : Int) 0 = true := rfl
      have z1 : leI (0 : Int) 1 = true := rfl
      have m1 : ∀ z : Int, klj z os = true := fun z => by
        have q1 : leI (0 : Int) (os.length : Int) = true := leI_t (by omega)
        have q2 : leI (((8 : Nat) : Int) * (os.length : Int)) 281474976710656 = true := leI_t (by omega)
        have q3 : leI (os.length : Int) 9223372036854775807 = true := leI_t (by omega)
        simp only [klj, q1, q2, q3, n7, allT, Bool.or_true, cond_true]
      have r1 : leI 0 x.2 = true := leI_t (by omega)
      have r2 : ltI x.2 (xs.length : Int) = true := ltI_t (by omega)
      have r3 : ltN x.2.toNat xs.length = true := ltN_t (by omega)
      simp [k9t, allT, k1, k2, k4, k5, k6, k7, k8, k9, k10, k11, k12, k13, e0, e14, e15, e18, n1, n2, n3, n4, n5, n6, n7, hl1, hl2, hl3, hl4, hl5, hl6, hl7, hl8, k5m, k5f, k5j, k5l, k8j, k7i, k5e, k5h, k8i, k8h, k7j, k8q, k8l, k5k, k5i, List.length_singleton, z0, z1, m1, r1, r2, r3] <;> omega

/-- The program's step. -/
theorem implStep {i v o : Int} {bs : List TM} {st : List IN} {inp : List Int} {k : Int} {stk xs os : List Int} {ss : List BS3} (hC : codeB i v o bs st = true) (hin : bitsB i inp = true)
    (h : OkM i v o bs st k stk xs os ss) (hlt : k < st.length) {x : IN} (hx : st[k.toNat]? = some x) :
    k3l k st = k + 1 ∧ k3n k bs st inp stk xs ss = stkM bs inp x stk xs ss ∧ k3p k bs st stk xs = vlsM bs x stk xs ∧
    k3r k bs st inp stk xs os = outM bs inp x stk xs os ∧ k3m k bs st stk ss = blkM bs x stk ss ∧ ku k bs st inp stk xs os ss = true := by
  obtain ⟨g1, g2, g3, g4, g5, _⟩ := k17g hC hin h hlt hx
  simp only [codeB, Bool.and_eq_true] at hC
  obtain ⟨hr, hB, hok⟩ := hC
  obtain ⟨ri, rv, ro, rb, rs⟩ := kyv.1 hr
  have h0 := h.lo
  have t2 := tkI_in bs x
  have hxl := (keh.1 h.vl).2
  have hol := (keh.1 h.ou).2
  have hil := (keh.1 hin).2
  have hsl := h.sl
  have hargb := (keh.1 g3).1
  have hal := k17w g3
  have ha0 := k139 hargb 0
  have ha1 := k139 hargb 1
  have e0 : ke k st = x := by simp only [ke, hx, Option.getD_some]
  have w3 : k9s k = k + 1 := wrap_i64 (by omega) (by omega)
  have e14 : kh k bs st stk = stk.length - tkI bs x := by
    simp only [kh, e0]
    have q : k1c x.1 x.2 bs = tkI bs x := rfl
    have q2 : kqv stk = (stk.length : Int) := rfl
    rw [q, q2]
    exact wrap_i64 (by omega) (by omega)
  have en : (((stk.length : Int) - tkI bs x)).toNat = stk.length - (tkI bs x).toNat := by omega
  have e1 : k1b k st = (gvI x == 1) := by
    simp only [k1b, e0]
    rfl
  have ear : stk.drop (stk.length - (tkI bs x).toNat) = argI bs x stk := rfl
  have ers : stk.take (stk.length - (tkI bs x).toNat) = rstI bs x stk := rfl
  have hz : ∀ (l : List Int) (z : Int), (bif z == 0 then zeros l.length else l) = mskM l z := fun l z => rfl
  have hcs := k149 ri rv ro rb g1
  have hB7 : x.1 = 7 → 0 ≤ x.2 ∧ x.2 < bs.length → blockB (termAt bs x.2.toNat).1 (termAt bs x.2.toNat).2.1 (termAt bs x.2.toNat).2.2 = true := fun _ hq => by
    have hlt7 : x.2.toNat < bs.length := by omega
    have hg7 : termAt bs x.2.toNat = bs[x.2.toNat] := by simp only [termAt, List.getElem?_eq_getElem hlt7]; rfl
    rw [hg7]; exact List.all_eq_true.1 hB _ (List.getElem_mem hlt7)
  obtain ⟨tk4, tk5, tk6, tk8, tk9, tk7⟩ := tk_of (bs := bs) (x := x)
  obtain ⟨gv1, gv0⟩ := gv_of (x := x)
  have h7 : x.1 = 7 → 0 ≤ x.2 ∧ x.2 < bs.length → _ := fun e q => k17b (hB7 e q) (h.sp x.2.toNat (by omega)) (by rw [← tk7 e]; exact g3)
  have hga0 : k5w (argI bs x stk) = atZ (argI bs x stk) 0 := rfl
  have hga1 : k1w x.2 bs = termAt bs x.2.toNat := rfl
  have hga2 : k18 x.2 ss = stAt ss x.2.toNat := rfl
  have hsa0 : k97 (argI bs x stk) = atZ (argI bs x stk) 0 := rfl
  have hat : ∀ (l : List Int) (z : Int), Option.getD l[Int.toNat z]? (0 : Int) = atZ l z := fun _ _ => rfl
  have hat1 : ∀ (l : List Int), Option.getD l[1]? (0 : Int) = atZ l 1 := fun _ => rfl
  have hand := k17h ha0 ha1
  have hor := k17u ha0 ha1
  have hnot := k180 ha0
  refine ⟨?_, ?_, ?_, ?_, ?_, ?_⟩
  · simp only [k3l, w3, Bool.cond_self]
  · simp only [k3n, kr, e0, e1, e14, en, ear, ers, stkM]
    rcases hcs with ⟨e, q⟩ | ⟨e, q⟩ | ⟨e, q⟩ | e | e | e | ⟨e, q⟩ | ⟨e, q⟩ | ⟨e, q⟩ | ⟨e, q⟩ | ⟨e, q⟩
    · simp [k1j, valM, e, gv1 (by omega)]
    · simp [k1j, valM, e, gv1 (by omega), hat]
    · simp [k1j, valM, e, gv1 (by omega), hat]
    · simp only [k1j, valM, e, hga0, hnot]; rfl
    · simp only [k1j, valM, e, hga0, hat, hand]; rfl
    · simp only [k1j, valM, e, hga0, hat, hor]; rfl
    · have := (h7 e q).1
      simp only [k1j, valM, e, hga1, hga2]
      simp [this, valB]
    all_goals simp [gv0 (by omega)]
  · simp only [k3p, e0, e1, e14, en, ear, vlsM]
    rcases hcs with ⟨e, q⟩ | ⟨e, q⟩ | ⟨e, q⟩ | e | e | e | ⟨e, q⟩ | ⟨e, q⟩ | ⟨e, q⟩ | ⟨e, q⟩ | ⟨e, q⟩
    all_goals first
      | simp [gv1 (by omega), e]
      | simp [gv0 (by omega), e, k9v, hsa0]
  · simp only [k3r, e0, e1, e14, en, ear, outM]
    rcases hcs with ⟨e, q⟩ | ⟨e, q⟩ | ⟨e, q⟩ | e | e | e | ⟨e, q⟩ | ⟨e, q⟩ | ⟨e, q⟩ | ⟨e, q⟩ | ⟨e, q⟩
    all_goals first
      | (simp [gv1 (by omega), e]; done)
      | (simp [gv0 (by omega), e, k5x, hsa0, hat]; done)
      | (simp [gv0 (by omega), e, k5x, hsa0, hat]; exact hz _ _)
  · simp only [k3m, e0, e1, e14, en, ear, blkM]
    rcases hcs with ⟨e, q⟩ | ⟨e, q⟩ | ⟨e, q⟩ | e | e | e | ⟨e, q⟩ | ⟨e, q⟩ | ⟨e, q⟩ | ⟨e, q⟩ | ⟨e, q⟩
    all_goals first
      | (have z := h7 e q
         simp only [k3o, e, hga1, hga2, z.2.1, z.2.2.1, z.2.2.2.1, gv1 (by omega)]
         simp [nextB]
         done)
      | simp [gv1 (by omega), e, k3o]
      | simp [gv0 (by omega), e]
  · have n1 : leI 0 k = true := leI_t h0
    have n2 : ltI k (st.length : Int) = true := ltI_t hlt
    have n3 : ltN k.toNat st.length = true := ltN_t (by omega)
    have n4 : k5g x.1 x.2 bs = true := fit_nd rb g1
    have n5 : leI 0 ((stk.length : Int) - tkI bs x) = true := leI_t (by omega)
    have n6 : leI ((stk.length : Int) - tkI bs x) (stk.length : Int) = true := leI_t (by omega)
    have n7 : leN (stk.length - (tkI bs x).toNat) stk.length = true := leN_t (Nat.sub_le _ _)
    have n8 : leN (argI bs x stk).length 1048576 = true := leN_t (by omega)
    have n9 : leN ((rstI bs x stk).length + 1) 9223372036854775807 = true := leN_t (by have := k157 g2; omega)
    have n10 : leN (((rstI bs x stk).length + 1) * 8) 140737488355328 = true := leN_t (by have := k157 g2; omega)
    have z0 : leI (0 : Int) 0 = true := rfl
    have z1 : leI (0 : Int) 1 = true := rfl
    rcases hcs with ⟨e, q⟩ | ⟨e, q⟩ | ⟨e, q⟩ | e | e | e | ⟨e, q⟩ | ⟨e, q⟩ | ⟨e, q⟩ | ⟨e, q⟩ | ⟨e, q⟩
    · have gv := gv1 (by omega)
      have hd : kg x.1 x.2 bs (argI bs x stk) inp xs ss = true := by simp [kg, k1f, k1n, k1m, allT, e, z0, z1] <;> omega
      simp only [ku, kr, e0, e1, e14, en, ear, ers, gv, hd, n1, n2, n3, n4, n5, n6, n7, n8, n9, n10, List.length_singleton, allT, beq_self_eq_true, Bool.not_true, Bool.false_or, Bool.true_or, Bool.or_true, cond_true, show ((0 : Int) == 1) = false from rfl, Bool.not_false]
    · have gv := gv1 (by omega)
      have r1 : leI 0 x.2 = true := leI_t (by omega)
      have r2 : ltI x.2 (inp.length : Int) = true := ltI_t (by omega)
      have r3 : ltN x.2.toNat inp.length = true := ltN_t (by omega)
      have hd : kg x.1 x.2 bs (argI bs x stk) inp xs ss = true := by simp [kg, k1f, k1n, k1m, allT, e, z0, z1, r1, r2, r3] <;> omega
      simp only [ku, kr, e0, e1, e14, en, ear, ers, gv, hd, n1, n2, n3, n4, n5, n6, n7, n8, n9, n10, List.length_singleton, allT, beq_self_eq_true, Bool.not_true, Bool.false_or, Bool.true_or, Bool.or_true, cond_true, show ((0 : Int) == 1) = false from rfl, Bool.not_false]
    · have gv := gv1 (by omega)
      have r1 : leI 0 x.2 = true := leI_t (by omega)
      have r2 : ltI x.2 (xs.length : Int) = true := ltI_t (by omega)
      have r3 : ltN x.2.toNat xs.length = true := ltN_t (by omega)
      have hd : kg x.1 x.2 bs (argI bs x stk) inp xs ss = true := by simp [kg, k1f, k1n, k1m, allT, e, z0, z1, r1, r2, r3] <;> omega
      simp only [ku, kr, e0, e1, e14, en, ear, ers, gv, hd, n1, n2, n3, n4, n5, n6, n7, n8, n9, n10, List.length_singleton, allT, beq_self_eq_true, Bool.not_true, Bool.false_or, Bool.true_or, Bool.or_true, cond_true, show ((0 : Int) == 1) = false from rfl, Bool.not_false]
    · have gv := gv1 (by omega)
      have tk := tk4 e
      have s1 : ltI 0 ((argI bs x stk).length : Int) = true := ltI_t (by omega)
      have s2 : ltN (Int.toNat 0) (argI bs x stk).length = true := ltN_t (by simp only [Int.toNat_zero]; omega)
      have hd : kg x.1 x.2 bs (argI bs x stk) inp xs ss = true := by simp [kg, k1f, k1n, k1m, allT, e, z0, z1, s1, s2] <;> omega
      simp only [ku, kr, e0, e1, e14, en, ear, ers, gv, hd, n1, n2, n3, n4, n5, n6, n7, n8, n9, n10, List.length_singleton, allT, beq_self_eq_true, Bool.not_true, Bool.false_or, Bool.true_or, Bool.or_true, cond_true, show ((0 : Int) == 1) = false from rfl, Bool.not_false]
    · have gv := gv1 (by omega)
      have tk := tk5 e
      have s1 : ltI 0 ((argI bs x stk).length : Int) = true := ltI_t (by omega)
      have s2 : ltN (Int.toNat 0) (argI bs x stk).length = true := ltN_t (by simp only [Int.toNat_zero]; omega)
      have s3 : ltI 1 ((argI bs x stk).length : Int) = true := ltI_t (by omega)
      have s4 : ltN (Int.toNat 1) (argI bs x stk).length = true := ltN_t (by rw [show Int.toNat 1 = 1 from rfl]; omega)
      have hd : kg x.1 x.2 bs (argI bs x stk) inp xs ss = true := by simp [kg, k1f, k1n, k1m, allT, e, z0, z1, s1, s2, s3, s4] <;> omega
      simp only [ku, kr, e0, e1, e14, en, ear, ers, gv, hd, n1, n2, n3, n4, n5, n6, n7, n8, n9, n10, List.length_singleton, allT, beq_self_eq_true, Bool.not_true, Bool.false_or, Bool.true_or, Bool.or_true, cond_true, show ((0 : Int) == 1) = false from rfl, Bool.not_false]
    · have gv := gv1 (by omega)
      have tk := tk6 e
      have s1 : ltI 0 ((argI bs x stk).length : Int) = true := ltI_t (by omega)
      have s2 : ltN (Int.toNat 0) (argI bs x stk).length = true := ltN_t (by simp only [Int.toNat_zero]; omega)
      have s3 : ltI 1 ((argI bs x stk).length : Int) = true := ltI_t (by omega)
      have s4 : ltN (Int.toNat 1) (argI bs x stk).length = true := ltN_t (by rw [show Int.toNat 1 = 1 from rfl]; omega)
      have hd : kg x.1 x.2 bs (argI bs x stk) inp xs ss = true := by simp [kg, k1f, k1n, k1m, allT, e, z0, z1, s1, s2, s3, s4] <;> omega
      simp only [ku, kr, e0, e1, e14, en, ear, ers, gv, hd, n1, n2, n3, n4, n5, n6, n7, n8, n9, n10, List.length_singleton, allT, beq_self_eq_true, Bool.not_true, Bool.false_or, Bool.true_or, Bool.or_true, cond_true, show ((0 : Int) == 1) = false from rfl, Bool.not_false]
    · have gv := gv1 (by omega)
      have r1 : leI 0 x.2 = true := leI_t (by omega)
      have r2 : ltI x.2 (bs.length : Int) = true := ltI_t (by omega)
      have r3 : ltN x.2.toNat bs.length = true := ltN_t (by omega)
      have r4 : ltI x.2 (ss.length : Int) = true := ltI_t (by omega)
      have r5 : ltN x.2.toNat ss.length = true := ltN_t (by omega)
      have r6 := (h7 e q).2.2.2.2.1
      have hd : kg x.1 x.2 bs (argI bs x stk) inp xs ss = true := by simp [kg, k1f, k1n, k1m, allT, e, z0, z1, r1, r2, r3, r4, r5, r6] <;> omega
      simp only [ku, kr, e0, e1, e14, en, ear, ers, gv, hd, n1, n2, n3, n4, n5, n6, n7, n8, n9, n10, List.length_singleton, allT, beq_self_eq_true, Bool.not_true, Bool.false_or, Bool.true_or, Bool.or_true, cond_true, show ((0 : Int) == 1) = false from rfl, Bool.not_false]
    · have gv := gv0 (by omega)
      have tk := tk8 e
      have s1 : ltI 0 ((argI bs x stk).length : Int) = true := ltI_t (by omega)
      have s2 : ltN (Int.toNat 0) (argI bs x stk).length = true := ltN_t (by simp only [Int.toNat_zero]; omega)
      have r1 : leI 0 x.2 = true := leI_t (by omega)
      have r2 : ltI x.2 (xs.length : Int) = true := ltI_t (by omega)
      have r3 : ltN x.2.toNat xs.length = true := ltN_t (by omega)
      have hd : k1g x.1 x.2 (argI bs x stk) inp xs os = true := by simp [k1g, allT, e, z0, z1, s1, s2, r1, r2, r3] <;> omega
      simp only [ku, kr, e0, e1, e14, en, ear, ers, gv, hd, n1, n2, n3, n4, n5, n6, n7, n8, n9, n10, List.length_singleton, allT, beq_self_eq_true, Bool.not_true, Bool.false_or, Bool.true_or, Bool.or_true, cond_true, show ((0 : Int) == 1) = false from rfl, Bool.not_false]
    · have gv := gv0 (by omega)
      have tk := tk9 e
      have s1 : ltI 0 ((argI bs x stk).length : Int) = true := ltI_t (by omega)
      have s2 : ltN (Int.toNat 0) (argI bs x stk).length = true := ltN_t (by simp only [Int.toNat_zero]; omega)
      have r1 : leI 0 x.2 = true := leI_t (by omega)
      have r2 : ltI x.2 (os.length : Int) = true := ltI_t (by omega)
      have r3 : ltN x.2.toNat os.length = true := ltN_t (by omega)
      have hd : k1g x.1 x.2 (argI bs x stk) inp xs os = true := by simp [k1g, allT, e, z0, z1, s1, s2, r1, r2, r3] <;> omega
      simp only [ku, kr, e0, e1, e14, en, ear, ers, gv, hd, n1, n2, n3, n4, n5, n6, n7, n8, n9, n10, List.length_singleton, allT, beq_self_eq_true, Bool.not_true, Bool.false_or, Bool.true_or, Bool.or_true, cond_true, show ((0 : Int) == 1) = false from rfl, Bool.not_false]
    · have gv := gv0 (by omega)
      have r1 : leI 0 x.2 = true := leI_t (by omega)
      have r2 : ltI x.2 (inp.length : Int) = true := ltI_t (by omega)
      have r3 : ltN x.2.toNat inp.length = true := ltN_t (by omega)
      have hd : k1g x.1 x.2 (argI bs x stk) inp xs os = true := by simp [k1g, allT, e, z0, z1, r1, r2, r3] <;> omega
      simp only [ku, kr, e0, e1, e14, en, ear, ers, gv, hd, n1, n2, n3, n4, n5, n6, n7, n8, n9, n10, List.length_singleton, allT, beq_self_eq_true, Bool.not_true, Bool.false_or, Bool.true_or, Bool.or_true, cond_true, show ((0 : Int) == 1) = false from rfl, Bool.not_false]
    · have gv := gv0 (by omega)
      have r1 : leI 0 x.2 = true := leI_t (by omega)
      have r2 : ltI x.2 (xs.length : Int) = true := ltI_t (by omega)
      have r3 : ltN x.2.toNat xs.length = true := ltN_t (by omega)
      have hd : k1g x.1 x.2 (argI bs x stk) inp xs os = true := by simp [k1g, allT, e, z0, z1, r1, r2, r3] <;> omega
      simp only [ku, kr, e0, e1, e14, en, ear, ers, gv, hd, n1, n2, n3, n4, n5, n6, n7, n8, n9, n10, List.length_singleton, allT, beq_self_eq_true, Bool.not_true, Bool.false_or, Bool.true_or, Bool.or_true, cond_true, show ((0 : Int) == 1) = false from rfl, Bool.not_false]

end Go.SX

namespace Go.SX
open Go.Proofs
set_option maxRecDepth 100000

abbrev k1p := Int × Int × Int × Int × List Int × List Int × List Int × List Int × List (Int × (Int × Int)) × List (Int × (ByteArray × Int)) × List (Int × Int)

def k7v (y0 : Int) (y10 : List (Int × Int)) : Bool :=
  ltI y0 (kv y10)

def kco (y0 : Int) (y4 : List Int) (y5 : List Int) (y6 : List Int) (y7 : List Int) (y8 : List (Int × (Int × Int))) (y9 : List (Int × (ByteArray × Int))) (y10 : List (Int × Int)) : Bool :=
  ku y0 y9 y10 y4 y5 y6 y7 y8

def kcs (y0 : Int) (y10 : List (Int × Int)) : Int :=
  k3l y0 y10

def kcz (y0 : Int) (y4 : List Int) (y5 : List Int) (y6 : List Int) (y8 : List (Int × (Int × Int))) (y9 : List (Int × (ByteArray × Int))) (y10 : List (Int × Int)) : List Int :=
  k3n y0 y9 y10 y4 y5 y6 y8

def kd0 (y0 : Int) (y5 : List Int) (y6 : List Int) (y9 : List (Int × (ByteArray × Int))) (y10 : List (Int × Int)) : List Int :=
  k3p y0 y9 y10 y5 y6

def kcx (y0 : Int) (y4 : List Int) (y5 : List Int) (y6 : List Int) (y7 : List Int) (y9 : List (Int × (ByteArray × Int))) (y10 : List (Int × Int)) : List Int :=
  k3r y0 y9 y10 y4 y5 y6 y7

def kd6 (y0 : Int) (y5 : List Int) (y8 : List (Int × (Int × Int))) (y9 : List (Int × (ByteArray × Int))) (y10 : List (Int × Int)) : List (Int × (Int × Int)) :=
  k3m y0 y9 y10 y5 y8

def kj3 : k1p → List (Nat × SV)
  | (_, _, _, _, _, _, _, _, _, _, _) => [(0, (.one ⟨false, [(.ptr 0 0)]⟩)), (4, (.one ⟨false, [(.ptr 1 0)]⟩)), (2, (.one ⟨false, [(.ref 2)]⟩))]

def kj8 : k1p → List (Nat × Entry)
  | (y0, y1, y2, y3, y4, y5, y6, y7, y8, y9, y10) => [(0, (.box 77 [(.val (.int IntKind.i64 y0)), (.ref 3), (.ref 4), (.ref 5), (.ref 6)])), (1, (.box 34 [(.val (.int IntKind.i64 y1)), (.val (.int IntKind.i64 y2)), (.val (.int IntKind.i64 y3)), (.ref 7), (.ref 8)])), (2, (.row false 2 (CTy.int IntKind.i64) y4)), (4, (.row true 2 (CTy.int IntKind.i64) y6)), (5, (.row true 2 (CTy.int IntKind.i64) y7)), (6, (.row true 172 (CTy.pair (CTy.int IntKind.i64) (CTy.pair (CTy.int IntKind.i64) (CTy.int IntKind.i64))) y8)), (7, (.row false 178 (CTy.pair (CTy.int IntKind.i64) (CTy.pair CTy.str (CTy.int IntKind.i64))) y9)), (8, (.row false 150 (CTy.pair (CTy.int IntKind.i64) (CTy.int IntKind.i64)) y10)), (3, (.row true 2 (CTy.int IntKind.i64) y5))]

def kjk : Nat → k1p → List (Nat × SV)
  | _, (_, _, _, _, _, _, _, _, _, _, _) => []

def kje : Nat → k1p → List (Nat × Entry)
  | _, (y0, y1, y2, y3, y4, y5, y6, y7, y8, y9, y10) => [(0, (.box 77 [(.val (.int IntKind.i64 y0)), (.ref 3), (.ref 4), (.ref 5), (.ref 6)])), (1, (.box 34 [(.val (.int IntKind.i64 y1)), (.val (.int IntKind.i64 y2)), (.val (.int IntKind.i64 y3)), (.ref 7), (.ref 8)])), (2, (.row false 2 (CTy.int IntKind.i64) y4)), (3, (.row true 2 (CTy.int IntKind.i64) y5)), (4, (.row true 2 (CTy.int IntKind.i64) y6)), (5, (.row true 2 (CTy.int IntKind.i64) y7)), (6, (.row true 172 (CTy.pair (CTy.int IntKind.i64) (CTy.pair (CTy.int IntKind.i64) (CTy.int IntKind.i64))) y8)), (7, (.row false 178 (CTy.pair (CTy.int IntKind.i64) (CTy.pair CTy.str (CTy.int IntKind.i64))) y9)), (8, (.row false 150 (CTy.pair (CTy.int IntKind.i64) (CTy.int IntKind.i64)) y10))]

def k7h : k1p → LT k1p
  | (y0, y1, y2, y3, y4, y5, y6, y7, y8, y9, y10) => .ite (k7v y0 y10) (.need [(kco y0 y4 y5 y6 y7 y8 y9 y10)] (.nrm ((kcs y0 y10), y1, y2, y3, y4, (kcz y0 y4 y5 y6 y8 y9 y10), (kd0 y0 y5 y6 y9 y10), (kcx y0 y4 y5 y6 y7 y9 y10), (kd6 y0 y5 y8 y9 y10), y9, y10) [(0, 0), (1, 1), (2, 2), (3, 768), (4, 4), (5, 5), (6, 6), (7, 7), (8, 8)])) (.ext 0 [(0, 0), (1, 1), (2, 2), (3, 3), (4, 4), (5, 5), (6, 6), (7, 7), (8, 8)])

def k7c (s : St) : Option k1p :=
  (match s.look 0 with
  | some ⟨none, (.one ⟨false, [(.ptr 0 0)]⟩)⟩ =>
  (match s.look 4 with
  | some ⟨none, (.one ⟨false, [(.ptr 576 0)]⟩)⟩ =>
  (match s.look 2 with
  | some ⟨none, (.one ⟨false, [(.ref 3)]⟩)⟩ =>
  (match s.ent 0 with
  | some (.box 77 [(.val (.int IntKind.i64 y0)), (.ref 4), (.ref 5), (.ref 6), (.ref 7)]) =>
  (match s.ent 576 with
  | some (.box 34 [(.val (.int IntKind.i64 y1)), (.val (.int IntKind.i64 y2)), (.val (.int IntKind.i64 y3)), (.ref 1), (.ref 2)]) =>
  (match s.ent 3 with
  | some (.row false 2 (CTy.int IntKind.i64) y4) =>
  (match s.ent 5 with
  | some (.row true 2 (CTy.int IntKind.i64) y6) =>
  (match s.ent 6 with
  | some (.row true 2 (CTy.int IntKind.i64) y7) =>
  (match s.ent 7 with
  | some (.row true 172 (CTy.pair (CTy.int IntKind.i64) (CTy.pair (CTy.int IntKind.i64) (CTy.int IntKind.i64))) y8) =>
  (match s.ent 1 with
  | some (.row false 178 (CTy.pair (CTy.int IntKind.i64) (CTy.pair CTy.str (CTy.int IntKind.i64))) y9) =>
  (match s.ent 2 with
  | some (.row false 150 (CTy.pair (CTy.int IntKind.i64) (CTy.int IntKind.i64)) y10) =>
  (match s.ent 4 with
  | some (.row true 2 (CTy.int IntKind.i64) y5) =>
  some (y0, y1, y2, y3, y4, y5, y6, y7, y8, y9, y10)
  | _ => none)
  | _ => none)
  | _ => none)
  | _ => none)
  | _ => none)
  | _ => none)
  | _ => none)
  | _ => none)
  | _ => none)
  | _ => none)
  | _ => none)
  | _ => none)

def k1a : Lp k1p where
  h := ⟨[6, 7, 8, 9, 10, 11, 12, 13, 14, 15, 16, 17], [0, 1, 2, 4, 5, 6, 7, 8], [3], []⟩
  JL := kj3
  JE := kj8
  XL := kjk
  XE := kje
  q := fun j => match j with | _ => .exit 0
  tags := [0]
  lt := k7h
  fuel := fun (y0, y1, y2, y3, y4, y5, y6, y7, y8, y9, y10) => y0.natAbs + y1.natAbs + y2.natAbs + y3.natAbs + y4.length + y5.length + y6.length + y7.length + y8.length + y9.length + y10.length
  fix := fun (_, y1, y2, y3, y4, _, _, _, _, y9, y10) (y0, _, _, _, _, y5, y6, y7, y8, _, _) => (y0, y1, y2, y3, y4, y5, y6, y7, y8, y9, y10)
  σ := [(0, 0), (1, 576), (2, 3), (4, 5), (5, 6), (6, 7), (7, 1), (8, 2), (3, 4)]
  rd := k7c

theorem kio : LoopOk Tryz.prog (fun k => Nat.blt k Tryz.f128.ntmps) k1a.F (loopAt Tryz.f128 0) := by
  refine Lp.ok (tbl := [k2s, PF.lend k2s, kab]) (lf := []) hmix k1a (by kernel_rfl) (LOk.nil _) (fun _ => rfl) (fun _ _ => rfl) ?_ ?_ ?_ ?_ (fun _ => rfl) ?_
  · intro x; obtain ⟨y0, y1, y2, y3, y4, y5, y6, y7, y8, y9, y10⟩ := x; kernel_rfl
  · intro x; obtain ⟨y0, y1, y2, y3, y4, y5, y6, y7, y8, y9, y10⟩ := x; kernel_rfl
  · intro s x h
    have h : k7c s = some x := h
    unfold k7c at h
    repeat' split at h
    all_goals cases h
    exact ⟨absS_cons (by assumption) rfl (absS_cons (by assumption) rfl (absS_cons (by assumption) rfl (rfl))), absE_cons rfl (by assumption) rfl (absE_cons rfl (by assumption) rfl (absE_cons rfl (by assumption) rfl (absE_cons rfl (by assumption) rfl (absE_cons rfl (by assumption) rfl (absE_cons rfl (by assumption) rfl (absE_cons rfl (by assumption) rfl (absE_cons rfl (by assumption) rfl (absE_cons rfl (by assumption) rfl (rfl)))))))))⟩
  · intro x; obtain ⟨y0, y1, y2, y3, y4, y5, y6, y7, y8, y9, y10⟩ := x; kernel_rfl
  · intro x z; obtain ⟨y0, y1, y2, y3, y4, y5, y6, y7, y8, y9, y10⟩ := x; exact (And.intro rfl trivial)

def k4x (x0 : Int) (x1 : Int) (x2 : Int) (x3 : Int) (x4 : List (Int × ByteArray × Int)) (x5 : List (Int × Int)) (x6 : List Int) (x7 : List Int) (x8 : List Int) (x9 : List Int) (x10 : List (Int × Int × Int)) : Int × Int × Int × Int × List Int × List Int × List Int × List Int × List (Int × Int × Int) × List (Int × ByteArray × Int) × List (Int × Int) :=
  (x3, x0, x1, x2, x6, x7, x8, x9, x10, x4, x5)

def k8t (x0 : Int) (x1 : Int) (x2 : Int) (x3 : Int) (x4 : List (Int × ByteArray × Int)) (x5 : List (Int × Int)) (x6 : List Int) (x7 : List Int) (x8 : List Int) (x9 : List Int) (x10 : List (Int × Int × Int)) : List Int × List Int × List Int × List (Int × Int × Int) × List (Int × ByteArray × Int) × List (Int × Int) :=
  Prod.snd
  (Prod.snd
    (Prod.snd
      (Prod.snd
        (Prod.snd
          (Prod.snd
            (Lp.res k1a
              (k4x x0 x1 x2 x3 x4 x5 x6 x7 x8 x9 x10)))))))

def k8k (x0 : Int) (x1 : Int) (x2 : Int) (x3 : Int) (x4 : List (Int × ByteArray × Int)) (x5 : List (Int × Int)) (x6 : List Int) (x7 : List Int) (x8 : List Int) (x9 : List Int) (x10 : List (Int × Int × Int)) : List Int × List Int × List (Int × Int × Int) × List (Int × ByteArray × Int) × List (Int × Int) :=
  Prod.snd (k8t x0 x1 x2 x3 x4 x5 x6 x7 x8 x9 x10)

def k8r (x0 : Int) (x1 : Int) (x2 : Int) (x3 : Int) (x4 : List (Int × ByteArray × Int)) (x5 : List (Int × Int)) (x6 : List Int) (x7 : List Int) (x8 : List Int) (x9 : List Int) (x10 : List (Int × Int × Int)) : List Int × List (Int × Int × Int) × List (Int × ByteArray × Int) × List (Int × Int) :=
  Prod.snd (k8k x0 x1 x2 x3 x4 x5 x6 x7 x8 x9 x10)

def k9a (x0 : Int) (x1 : Int) (x2 : Int) (x3 : Int) (x4 : List (Int × ByteArray × Int)) (x5 : List (Int × Int)) (x6 : List Int) (x7 : List Int) (x8 : List Int) (x9 : List Int) (x10 : List (Int × Int × Int)) : Int :=
  Prod.fst
  (Prod.snd
    (Lp.res k1a (k4x x0 x1 x2 x3 x4 x5 x6 x7 x8 x9 x10)))

def k9e (x0 : Int) (x1 : Int) (x2 : Int) (x3 : Int) (x4 : List (Int × ByteArray × Int)) (x5 : List (Int × Int)) (x6 : List Int) (x7 : List Int) (x8 : List Int) (x9 : List Int) (x10 : List (Int × Int × Int)) : List Int :=
  Prod.fst (k8k x0 x1 x2 x3 x4 x5 x6 x7 x8 x9 x10)

def k9f (x0 : Int) (x1 : Int) (x2 : Int) (x3 : Int) (x4 : List (Int × ByteArray × Int)) (x5 : List (Int × Int)) (x6 : List Int) (x7 : List Int) (x8 : List Int) (x9 : List Int) (x10 : List (Int × Int × Int)) : List Int :=
  Prod.fst (k8r x0 x1 x2 x3 x4 x5 x6 x7 x8 x9 x10)

def k99 (x0 : Int) (x1 : Int) (x2 : Int) (x3 : Int) (x4 : List (Int × ByteArray × Int)) (x5 : List (Int × Int)) (x6 : List Int) (x7 : List Int) (x8 : List Int) (x9 : List Int) (x10 : List (Int × Int × Int)) : List (Int × (Int × Int)) :=
  Prod.fst (Prod.snd (k8r x0 x1 x2 x3 x4 x5 x6 x7 x8 x9 x10))

def k9d (x0 : Int) (x1 : Int) (x2 : Int) (x3 : Int) (x4 : List (Int × ByteArray × Int)) (x5 : List (Int × Int)) (x6 : List Int) (x7 : List Int) (x8 : List Int) (x9 : List Int) (x10 : List (Int × Int × Int)) : List Int :=
  Prod.fst (k8t x0 x1 x2 x3 x4 x5 x6 x7 x8 x9 x10)

def k9c (x0 : Int) (x1 : Int) (x2 : Int) (x3 : Int) (x4 : List (Int × ByteArray × Int)) (x5 : List (Int × Int)) (x6 : List Int) (x7 : List Int) (x8 : List Int) (x9 : List Int) (x10 : List (Int × Int × Int)) : Bool :=
  allT [Lp.fin k1a (k4x x0 x1 x2 x3 x4 x5 x6 x7 x8 x9 x10)]

def ke5 : List SV → List Entry → Option Out
  | [.one ⟨false, [.ptr 0 0]⟩, .one ⟨true, [.val (.int .i64 x0), .val (.int .i64 x1), .val (.int .i64 x2), .ref 1, .ref 2]⟩, .one ⟨false, [.ref 3]⟩], [.box 77 [.val (.int .i64 x3), .ref 4, .ref 5, .ref 6, .ref 7], .row false 178 (.pair (.int .i64) (.pair .str (.int .i64))) x4, .row false 150 (.pair (.int .i64) (.int .i64)) x5, .row false 2 (.int .i64) x6, .row true 2 (.int .i64) x7, .row true 2 (.int .i64) x8, .row true 2 (.int .i64) x9, .row true 172 (.pair (.int .i64) (.pair (.int .i64) (.int .i64))) x10] => some ⟨(.tup []), [(.box 77 [(.val (.int IntKind.i64 (k9a x0 x1 x2 x3 x4 x5 x6 x7 x8 x9 x10))), (.ref 8), (.ref 5), (.ref 6), (.ref 7)]), (.row false 178 (CTy.pair (CTy.int IntKind.i64) (CTy.pair CTy.str (CTy.int IntKind.i64))) x4), (.row false 150 (CTy.pair (CTy.int IntKind.i64) (CTy.int IntKind.i64)) x5), (.row false 2 (CTy.int IntKind.i64) x6), .gone, (.row true 2 (CTy.int IntKind.i64) (k9e x0 x1 x2 x3 x4 x5 x6 x7 x8 x9 x10)), (.row true 2 (CTy.int IntKind.i64) (k9f x0 x1 x2 x3 x4 x5 x6 x7 x8 x9 x10)), (.row true 172 (CTy.pair (CTy.int IntKind.i64) (CTy.pair (CTy.int IntKind.i64) (CTy.int IntKind.i64))) (k99 x0 x1 x2 x3 x4 x5 x6 x7 x8 x9 x10))], [(.row true 2 (CTy.int IntKind.i64) (k9d x0 x1 x2 x3 x4 x5 x6 x7 x8 x9 x10))], [(k9c x0 x1 x2 x3 x4 x5 x6 x7 x8 x9 x10)]⟩
  | _, _ => none

def kla : PF Tryz.prog := PF.ofG Tryz.prog [k2s, PF.lend k2s, kab] [k1a.F] hmix 128 Tryz.f128 Tryz.func128 (LOk.fnT (l := [loopAt Tryz.f128 0]) (by kernel_rfl) (.cons kio (.nil _))) ke5 (by
  intro vs es r h; unfold ke5 at h; split at h
  · cases h; kernel_rfl
  · cases h)

end Go.SX

namespace Go.SX
open Go.Proofs
set_option maxRecDepth 100000

abbrev MS := Int × List Int × List Int × List Int × List BS3
def insAt (st : List IN) (k : Int) : IN := Option.getD st[k.toNat]? ((0 : Int), (0 : Int))
def stpM (bs : List TM) (st : List IN) (inp : List Int) : MS → MS
  | (k, stk, xs, os, ss) => (k + 1, stkM bs inp (insAt st k) stk xs ss, vlsM bs (insAt st k) stk xs, outM bs inp (insAt st k) stk xs os, blkM bs (insAt st k) stk ss)
def finM (bs : List TM) (st : List IN) (inp : List Int) : Nat → MS → MS
  | 0, m => m
  | n + 1, m => finM bs st inp n (stpM bs st inp m)

def OkS (i v o : Int) (bs : List TM) (st : List IN) (m : MS) : Prop := OkM i v o bs st m.1 m.2.1 m.2.2.1 m.2.2.2.1 m.2.2.2.2

theorem stp_ok {i v o : Int} {bs : List TM} {st : List IN} {inp : List Int} {m : MS} (hC : codeB i v o bs st = true) (hin : bitsB i inp = true) (h : OkS i v o bs st m) (hlt : m.1 < st.length) :
    OkS i v o bs st (stpM bs st inp m) ∧ st[m.1.toNat]? = some (insAt st m.1) := by
  obtain ⟨k, stk, xs, os, ss⟩ := m
  have h0 := h.lo
  simp only at h0 hlt
  have hk : k.toNat < st.length := by omega
  have hx : st[k.toNat]? = some (insAt st k) := by simp only [insAt, List.getElem?_eq_getElem hk]; rfl
  exact ⟨(k17g hC hin h hlt hx).2.2.2.2.2, hx⟩

/-- A loop that steps a machine to its end. -/
theorem k17y {X : Type} (p : Lp X) (enc : MS → X) {i v o : Int} {bs : List TM} {st : List IN} {inp : List Int} (hC : codeB i v o bs st = true) (hin : bitsB i inp = true)
    (h1 : ∀ m : MS, OkS i v o bs st m → m.1 < st.length → (p.lt (enc m)).out = some (.inr (enc (stpM bs st inp m)))) (h2 : ∀ m : MS, m.1 = st.length → (p.lt (enc m)).out = some (.inl 0))
    (hf : ∀ m, st.length ≤ p.fuel (enc m)) (m : MS) (hm : OkS i v o bs st m) :
    p.fin (enc m) = true ∧ p.res (enc m) = (0, enc (finM bs st inp (st.length - m.1.toNat) m)) ∧ OkS i v o bs st (finM bs st inp (st.length - m.1.toNat) m) := by
  have key : ∀ (n : Nat) (m : MS), OkS i v o bs st m → st.length - m.1.toNat = n → runL p.lt (n + 1) (enc m) = some (0, enc (finM bs st inp n m)) ∧ OkS i v o bs st (finM bs st inp n m) := by
    intro n
    induction n with
    | zero =>
      intro m hm hn
      have := hm.lo
      have := hm.hi
      exact ⟨runL_end _ (h2 m (by omega)), hm⟩
    | succ n ih =>
      intro m hm hn
      have h0 := hm.lo
      have hlt : m.1 < st.length := by omega
      have hs := (stp_ok hC hin hm hlt).1
      have he : (stpM bs st inp m).1 = m.1 + 1 := rfl
      obtain ⟨r1, r2⟩ := ih _ hs (by rw [he]; omega)
      exact ⟨by rw [runL_next _ (h1 m hm hlt)]; exact r1, r2⟩
  obtain ⟨r1, r2⟩ := key _ m hm rfl
  obtain ⟨q1, q2⟩ := p.run r1 (le_big (by have := hf m; omega))
  exact ⟨q1, q2, r2⟩

/-- The height at a place. -/
def hAt (i v o : Int) (bs : List TM) (st : List IN) (k : Int) : Int := bif ltI 0 k then atZ (hgtL i v o bs st) (k - 1) else 0
/-- A machine that is possible for a code. -/
def mchB (i v o : Int) (bs : List TM) (st : List IN) (k : Int) (stk xs os : List Int) (ss : List BS3) : Bool :=
  inR k 0 st.length && (bitsB (hAt i v o bs st k) stk && (bitsB o os && suitB v bs xs ss))

theorem k184 {v : Int} {bs : List TM} {xs : List Int} {ss : List BS3} : suitB v bs xs ss = true ↔ ss.length = bs.length ∧ bitsB v xs = true ∧ ∀ k, k < bs.length → possAt bs ss k = true := by
  simp only [suitB, Bool.and_eq_true, beq_iff_eq, List.all_eq_true, List.mem_range]
  constructor
  · rintro ⟨h1, h2, h3⟩; exact ⟨by omega, h2, h3⟩
  · rintro ⟨h1, h2, h3⟩; exact ⟨by omega, h2, h3⟩

theorem mch_ok {i v o : Int} {bs : List TM} {st : List IN} {k : Int} {stk xs os : List Int} {ss : List BS3} (hC : codeB i v o bs st = true) (h : mchB i v o bs st k stk xs os ss = true) : OkM i v o bs st k stk xs os ss := by
  simp only [mchB, Bool.and_eq_true, kul] at h
  obtain ⟨⟨k0, k1⟩, h2, h3, h4⟩ := h
  obtain ⟨s1, s2, s3⟩ := k184.1 h4
  simp only [codeB, Bool.and_eq_true] at hC
  obtain ⟨b1, b2⟩ := keh.1 h2
  refine ⟨k0, k1, ?_, b1, s2, h3, s1, s3⟩
  obtain ⟨n, L, g1, g2, g3, g4⟩ := k17x hC.2.2 k.toNat (by omega)
  refine ⟨L, ?_⟩
  rw [g1, b2]
  by_cases hk : 0 < k
  · have := g4 (by omega)
    have ht : ltI 0 k = true := ltI_t hk
    simp only [hAt, ht, cond_true]
    rw [show ((k.toNat : Int) - 1) = k - 1 by omega] at this
    rw [this]
  · have ht : ltI 0 k = false := ltI_f (by omega)
    simp only [hAt, ht, cond_false]
    rw [g3 (by omega)]

/-- The lengths of a possible machine. -/
theorem ok_len {i v o : Int} {bs : List TM} {st : List IN} {m : MS} (hC : codeB i v o bs st = true) (h : OkS i v o bs st m) : m.2.1.length ≤ 40 ∧ m.2.2.1.length ≤ 20 ∧ m.2.2.2.1.length ≤ 20 ∧ m.2.2.2.2.length ≤ 2000 := by
  obtain ⟨k, stk, xs, os, ss⟩ := m
  simp only [codeB, Bool.and_eq_true] at hC
  obtain ⟨ri, rv, ro, rb, rs⟩ := kyv.1 hC.1
  obtain ⟨L, hL⟩ := h.hg
  have h2 := k16k _ _ _ _ _ (by omega) hL
  have hxl := (keh.1 h.vl).2
  have hol := (keh.1 h.ou).2
  have hsl := h.sl
  simp only at h2 hxl hol hsl ⊢
  omega

def fnM (bs : List TM) (st : List IN) (inp : List Int) (k : Int) (stk xs os : List Int) (ss : List BS3) : MS := finM bs st inp (st.length - k.toNat) (k, stk, xs, os, ss)
def runNd (i v o : Int) (bs : List TM) (st : List IN) (inp : List Int) (k : Int) (stk xs os : List Int) (ss : List BS3) : Bool := codeB i v o bs st && (bitsB i inp && mchB i v o bs st k stk xs os ss)

theorem implFin (i v o : Int) (bs : List TM) (st : List IN) (inp : List Int) (k : Int) (stk xs os : List Int) (ss : List BS3) (h : runNd i v o bs st inp k stk xs os ss = true) :
    k9a i v o k bs st inp stk xs os ss = (fnM bs st inp k stk xs os ss).1 ∧ k9e i v o k bs st inp stk xs os ss = (fnM bs st inp k stk xs os ss).2.2.1 ∧
    k9f i v o k bs st inp stk xs os ss = (fnM bs st inp k stk xs os ss).2.2.2.1 ∧ k99 i v o k bs st inp stk xs os ss = (fnM bs st inp k stk xs os ss).2.2.2.2 ∧
    k9d i v o k bs st inp stk xs os ss = (fnM bs st inp k stk xs os ss).2.1 ∧ k9c i v o k bs st inp stk xs os ss = true := by
  simp only [runNd, Bool.and_eq_true] at h
  obtain ⟨hC, hin, hm⟩ := h
  have hm := mch_ok hC hm
  obtain ⟨f1, f2, _⟩ := k17y k1a (fun m => (m.1, i, v, o, inp, m.2.1, m.2.2.1, m.2.2.2.1, m.2.2.2.2, bs, st)) hC hin
    (fun m hm hlt => by
      obtain ⟨k, stk, xs, os, ss⟩ := m
      obtain ⟨_, hx⟩ := stp_ok hC hin hm hlt
      obtain ⟨e0, e4, e1, e2, e3, e5⟩ := implStep hC hin hm hlt hx
      simp only at hlt e0 e1 e2 e3 e4 e5
      have t1 : ltI k (st.length : Int) = true := ltI_t hlt
      simp only [k1a, k7h, LT.out, k7v, kco, kcs, kcz, kd0, kcx, kd6, kv, t1, e0, e1, e2, e3, e4, e5, stpM, allT]
      rfl)
    (fun m hk => by
      obtain ⟨k, stk, xs, os, ss⟩ := m
      simp only at hk
      have t1 : ltI k (st.length : Int) = false := ltI_f (by omega)
      simp only [k1a, k7h, LT.out, k7v, kv, t1, cond_false])
    (fun m => by simp only [k1a]; omega) (k, stk, xs, os, ss) hm
  simp only at f1 f2
  simp only [k9a, k9e, k9f, k99, k9d, k9c, k4x, k8t, k8k, k8r, f1, f2, allT, fnM, and_self, cond_true]

theorem specFin (i v o : Int) (bs : List TM) (st : List IN) (inp : List Int) (k : Int) (stk xs os : List Int) (ss : List BS3) (h : runNd i v o bs st inp k stk xs os ss = true) :
    kuy i v o k bs st stk xs os ss inp = (fnM bs st inp k stk xs os ss).1 ∧ kux i v o k bs st stk xs os ss inp = (fnM bs st inp k stk xs os ss).2.1 ∧
    ku9 i v o k bs st stk xs os ss inp = (fnM bs st inp k stk xs os ss).2.2.1 ∧ kud i v o k bs st stk xs os ss inp = (fnM bs st inp k stk xs os ss).2.2.2.1 ∧
    ku2 i v o k bs st stk xs os ss inp = (fnM bs st inp k stk xs os ss).2.2.2.2 ∧ kun i v o k bs st stk xs os ss inp = true := by
  simp only [runNd, Bool.and_eq_true] at h
  obtain ⟨hC, hin, hm⟩ := h
  have hm := mch_ok hC hm
  obtain ⟨l1, l2, l3, l4⟩ := ok_len (m := (k, stk, xs, os, ss)) hC hm
  simp only at l1 l2 l3 l4
  obtain ⟨f1, f2, _⟩ := k17y k7s (fun m => (m.1, i, v, o, inp, m.2.1, m.2.2.1, m.2.2.2.1, m.2.2.2.2, bs, st)) hC hin
    (fun m hm hlt => by
      obtain ⟨k, stk, xs, os, ss⟩ := m
      obtain ⟨_, hx⟩ := stp_ok hC hin hm hlt
      obtain ⟨e0, e1, e2, e3, e4, e5⟩ := specStep hC hin hm hlt hx
      simp only at hlt e0 e1 e2 e3 e4 e5
      have t1 : ltI k (st.length : Int) = true := ltI_t hlt
      simp only [k7s, kqc, LT.out, kqz, kvn, kva, kvj, kvf, kve, kvh, t1, e0, e1, e2, e3, e4, e5, stpM, allT]
      rfl)
    (fun m hk => by
      obtain ⟨k, stk, xs, os, ss⟩ := m
      simp only at hk
      have t1 : ltI k (st.length : Int) = false := ltI_f (by omega)
      simp only [k7s, kqc, LT.out, kqz, t1, cond_false])
    (fun m => by simp only [k7s]; omega) (k, stk, xs, os, ss) hm
  simp only at f1 f2
  have t1 : leN stk.length 1048576 = true := leN_t (by omega)
  have t2 : leN xs.length 1048576 = true := leN_t (by omega)
  have t3 : leN os.length 1048576 = true := leN_t (by omega)
  have t4 : leN (0 + ss.length) 9223372036854775807 = true := leN_t (by omega)
  have t5 : leN ((0 + ss.length) * 24) 140737488355328 = true := leN_t (by omega)
  simp only [kuy, kux, ku9, kud, ku2, kun, kpp, ktb, kt9, kt6, f1, f2, t1, t2, t3, t4, t5, allT, fnM, and_self, cond_true]

def ke4 : List SV → List Entry → Option Out
  | [.one ⟨false, [.ptr 0 0]⟩, .one ⟨true, [.val (.int .i64 x0), .val (.int .i64 x1), .val (.int .i64 x2), .ref 1, .ref 2]⟩, .one ⟨false, [.ref 3]⟩], [.box 77 [.val (.int .i64 x3), .ref 4, .ref 5, .ref 6, .ref 7], .row false 178 (.pair (.int .i64) (.pair .str (.int .i64))) x4, .row false 150 (.pair (.int .i64) (.int .i64)) x5, .row false 2 (.int .i64) x6, .row true 2 (.int .i64) x7, .row true 2 (.int .i64) x8, .row true 2 (.int .i64) x9, .row true 172 (.pair (.int .i64) (.pair (.int .i64) (.int .i64))) x10] => some ⟨(.tup []), [(.box 77 [(.val (.int IntKind.i64 ((fnM x4 x5 x6 x3 x7 x8 x9 x10).1))), (.ref 8), (.ref 5), (.ref 6), (.ref 7)]), (.row false 178 (CTy.pair (CTy.int IntKind.i64) (CTy.pair CTy.str (CTy.int IntKind.i64))) x4), (.row false 150 (CTy.pair (CTy.int IntKind.i64) (CTy.int IntKind.i64)) x5), (.row false 2 (CTy.int IntKind.i64) x6), .gone, (.row true 2 (CTy.int IntKind.i64) ((fnM x4 x5 x6 x3 x7 x8 x9 x10).2.2.1)), (.row true 2 (CTy.int IntKind.i64) ((fnM x4 x5 x6 x3 x7 x8 x9 x10).2.2.2.1)), (.row true 172 (CTy.pair (CTy.int IntKind.i64) (CTy.pair (CTy.int IntKind.i64) (CTy.int IntKind.i64))) ((fnM x4 x5 x6 x3 x7 x8 x9 x10).2.2.2.2))], [(.row true 2 (CTy.int IntKind.i64) ((fnM x4 x5 x6 x3 x7 x8 x9 x10).2.1))], [runNd x0 x1 x2 x4 x5 x6 x3 x7 x8 x9 x10]⟩
  | _, _ => none

def kl9 : PF Tryz.prog := PF.alt kla ke4 (by
  intro args es o h hnd; unfold ke4 at h; split at h
  · rename_i x0 x1 x2 x3 x4 x5 x6 x7 x8 x9 x10
    cases h
    have hnd := nd_fst hnd
    have hh := implFin x0 x1 x2 x4 x5 x6 x3 x7 x8 x9 x10 hnd
    obtain ⟨e0, e1, e2, e3, e4, en⟩ := hh
    exact altok rfl (nd_one en) rfl (by simp only [e0, e1, e2, e3] <;> rfl) (by simp only [e4] <;> rfl)
  · cases h)

def kyd : List SV → List Entry → Option Out
  | [.one ⟨true, [.val (.int .i64 x0), .val (.int .i64 x1), .val (.int .i64 x2), .ref 0, .ref 1]⟩, .one ⟨true, [.val (.int .i64 x3), .ref 2, .ref 3, .ref 4, .ref 5]⟩, .one ⟨false, [.ref 6]⟩], [.row false 178 (.pair (.int .i64) (.pair (.str) (.int .i64))) x4, .row false 150 (.pair (.int .i64) (.int .i64)) x5, .row false 2 (.int .i64) x6, .row false 2 (.int .i64) x7, .row false 2 (.int .i64) x8, .row false 172 (.pair (.int .i64) (.pair (.int .i64) (.int .i64))) x9, .row false 2 (.int .i64) x10] => some ⟨(.one ⟨true, [(.val (.int IntKind.i64 ((fnM x4 x5 x10 x3 x6 x7 x8 x9).1))), (.ref 7), (.ref 8), (.ref 9), (.ref 10)]⟩), [(.row false 178 (CTy.pair (CTy.int IntKind.i64) (CTy.pair CTy.str (CTy.int IntKind.i64))) x4), (.row false 150 (CTy.pair (CTy.int IntKind.i64) (CTy.int IntKind.i64)) x5), (.row false 2 (CTy.int IntKind.i64) x6), (.row false 2 (CTy.int IntKind.i64) x7), (.row false 2 (CTy.int IntKind.i64) x8), (.row false 172 (CTy.pair (CTy.int IntKind.i64) (CTy.pair (CTy.int IntKind.i64) (CTy.int IntKind.i64))) x9), (.row false 2 (CTy.int IntKind.i64) x10)], [(.row false 2 (CTy.int IntKind.i64) ((fnM x4 x5 x10 x3 x6 x7 x8 x9).2.1)), (.row false 2 (CTy.int IntKind.i64) ((fnM x4 x5 x10 x3 x6 x7 x8 x9).2.2.1)), (.row false 2 (CTy.int IntKind.i64) ((fnM x4 x5 x10 x3 x6 x7 x8 x9).2.2.2.1)), (.row false 172 (CTy.pair (CTy.int IntKind.i64) (CTy.pair (CTy.int IntKind.i64) (CTy.int IntKind.i64))) ((fnM x4 x5 x10 x3 x6 x7 x8 x9).2.2.2.2))], [runNd x0 x1 x2 x4 x5 x10 x3 x6 x7 x8 x9]⟩
  | _, _ => none

def kup : PF Tryz.prog := PF.alt k14d kyd (by
  intro args es o h hnd; unfold kyd at h; split at h
  · rename_i x0 x1 x2 x3 x4 x5 x6 x7 x8 x9 x10
    cases h
    have hnd := nd_fst hnd
    have hh := specFin x0 x1 x2 x4 x5 x10 x3 x6 x7 x8 x9 hnd
    obtain ⟨e0, e1, e2, e3, e4, en⟩ := hh
    exact altok rfl (nd_one en) (by simp only [e0] <;> rfl) rfl (by simp only [e1, e2, e3, e4] <;> rfl)
  · cases h)

end Go.SX

namespace Go.SX
open Go.Proofs
set_option maxRecDepth 100000

def k8x (x3 : Int) (x5 : List (Int × Int)) : Bool :=
  !k1u x3 (0 : Int) (↑(List.length x5) : Int)

def kgo (x3 : Int) : Int :=
  IntKind.wrap IntKind.i64 (x3 - (1 : Int))

def knl (x0 : Int) (x1 : Int) (x2 : Int) (x3 : Int) (x4 : List (Int × ByteArray × Int)) (x5 : List (Int × Int)) (x6 : List Int) : Bool :=
  bitsB (bif ltI (0 : Int) x3 then Option.getD (hgtL x0 x1 x2 x4 x5)[Int.toNat (kgo x3)]? (0 : Int) else (0 : Int)) x6

def kr3 (x0 : Int) (x1 : Int) (x2 : Int) (x3 : Int) (x4 : List (Int × ByteArray × Int)) (x5 : List (Int × Int)) (x6 : List Int) (x8 : List Int) : Bool :=
  bif knl x0 x1 x2 x3 x4 x5 x6 then bitsB x2 x8 else false

def krx (x0 : Int) (x1 : Int) (x2 : Int) (x3 : Int) (x4 : List (Int × ByteArray × Int)) (x5 : List (Int × Int)) (x6 : List Int) (x7 : List Int) (x8 : List Int) (x9 : List (Int × Int × Int)) : Bool :=
  bif k8x x3 x5 then false else bif kr3 x0 x1 x2 x3 x4 x5 x6 x8 then suitB x1 x4 x7 x9 else false

def ksf (x0 : Int) (x1 : Int) (x2 : Int) (x3 : Int) (x4 : List (Int × ByteArray × Int)) (x5 : List (Int × Int)) (x6 : List Int) (x7 : List Int) (x8 : List Int) : Bool :=
  allT
  [k8x x3 x5 || (!ltI (0 : Int) x3 || leN (List.length x5) (2000 : Nat) && leN (List.length x4) (2000 : Nat)),
    k8x x3 x5 || (!ltI (0 : Int) x3 || leI (0 : Int) (kgo x3)),
    k8x x3 x5 || (!ltI (0 : Int) x3 || ltI (kgo x3) (↑(List.length (hgtL x0 x1 x2 x4 x5)) : Int)),
    k8x x3 x5 || (!ltI (0 : Int) x3 || ltN (Int.toNat (kgo x3)) (List.length (hgtL x0 x1 x2 x4 x5))),
    k8x x3 x5 || leN (List.length x6) (9223372036854775807 : Nat),
    k8x x3 x5 || (!(knl x0 x1 x2 x3 x4 x5 x6 && true) || leN (List.length x8) (9223372036854775807 : Nat)),
    k8x x3 x5 ||
      (!(kr3 x0 x1 x2 x3 x4 x5 x6 x8 && true) ||
        leN (List.length x7) (9223372036854775807 : Nat) && leN (List.length x4) (9223372036854775807 : Nat))]

def kwm : List SV → List Entry → Option Out
  | [.one ⟨true, [.val (.int .i64 x0), .val (.int .i64 x1), .val (.int .i64 x2), .ref 0, .ref 1]⟩, .one ⟨true, [.val (.int .i64 x3), .ref 2, .ref 3, .ref 4, .ref 5]⟩], [.row false 178 (.pair (.int .i64) (.pair (.str) (.int .i64))) x4, .row false 150 (.pair (.int .i64) (.int .i64)) x5, .row false 2 (.int .i64) x6, .row false 2 (.int .i64) x7, .row false 2 (.int .i64) x8, .row false 172 (.pair (.int .i64) (.pair (.int .i64) (.int .i64))) x9] => some ⟨(.one ⟨false, [(.val (.bool (krx x0 x1 x2 x3 x4 x5 x6 x7 x8 x9)))]⟩), [(.row false 178 (CTy.pair (CTy.int IntKind.i64) (CTy.pair CTy.str (CTy.int IntKind.i64))) x4), (.row false 150 (CTy.pair (CTy.int IntKind.i64) (CTy.int IntKind.i64)) x5), (.row false 2 (CTy.int IntKind.i64) x6), (.row false 2 (CTy.int IntKind.i64) x7), (.row false 2 (CTy.int IntKind.i64) x8), (.row false 172 (CTy.pair (CTy.int IntKind.i64) (CTy.pair (CTy.int IntKind.i64) (CTy.int IntKind.i64))) x9)], [], [(ksf x0 x1 x2 x3 x4 x5 x6 x7 x8)]⟩
  | _, _ => none

def k12l : PF Tryz.prog := PF.ofG Tryz.prog [kvr, PF.lend kvr, PF.fz kvr, ki7, kth, PF.lend kth, PF.fz kth, kda, PF.lend kda, PF.fz kda] [] hmix 140 Tryz.f140 Tryz.func140 (fun c _ => LOk.nil c) kwm (by
  intro vs es r h; unfold kwm at h; split at h
  · cases h; kernel_rfl
  · cases h)

def k2n (x0 : Int) : Int :=
  IntKind.wrap IntKind.i64 (x0 - (1 : Int))

def k4w (x0 : Int) (x1 : Int) (x2 : Int) (x3 : Int) (x4 : List Int) (x8 : List (Int × ByteArray × Int)) (x9 : List (Int × Int)) : Bool :=
  bitsB
  (bif ltI (0 : Int) x0 then Option.getD (hgtL x1 x2 x3 x8 x9)[Int.toNat (k2n x0)]? (0 : Int)
  else (0 : Int))
  x4

def k8s (x0 : Int) (x1 : Int) (x2 : Int) (x3 : Int) (x4 : List Int) (x6 : List Int) (x8 : List (Int × ByteArray × Int)) (x9 : List (Int × Int)) : Bool :=
  bif k4w x0 x1 x2 x3 x4 x8 x9 then bitsB x3 x6 else false

def k96 (x0 : Int) (x1 : Int) (x2 : Int) (x3 : Int) (x4 : List Int) (x5 : List Int) (x6 : List Int) (x7 : List (Int × Int × Int)) (x8 : List (Int × ByteArray × Int)) (x9 : List (Int × Int)) : Bool :=
  bif !k3s x0 (0 : Int) (kv x9) then false
  else bif k8s x0 x1 x2 x3 x4 x6 x8 x9 then suitB x2 x8 x5 x7 else false

def k9b (x0 : Int) (x1 : Int) (x2 : Int) (x3 : Int) (x4 : List Int) (x5 : List Int) (x6 : List Int) (x8 : List (Int × ByteArray × Int)) (x9 : List (Int × Int)) : Bool :=
  allT
  [!k3s x0 (0 : Int) (kv x9) || rngC x1 x2 x3 x8 x9,
    !k3s x0 (0 : Int) (kv x9) ||
      (!ltI (0 : Int) x0 || leI (0 : Int) (k2n x0)),
    !k3s x0 (0 : Int) (kv x9) ||
      (!ltI (0 : Int) x0 || ltI (k2n x0) (↑(List.length (hgtL x1 x2 x3 x8 x9)) : Int)),
    !k3s x0 (0 : Int) (kv x9) ||
      (!ltI (0 : Int) x0 || ltN (Int.toNat (k2n x0)) (List.length (hgtL x1 x2 x3 x8 x9))),
    !k3s x0 (0 : Int) (kv x9) || leN (List.length x4) (9223372036854775807 : Nat),
    !k3s x0 (0 : Int) (kv x9) ||
      (!(k4w x0 x1 x2 x3 x4 x8 x9 && true) || leN (List.length x6) (9223372036854775807 : Nat)),
    !k3s x0 (0 : Int) (kv x9) ||
      (!(k8s x0 x1 x2 x3 x4 x6 x8 x9 && true) ||
        leN (List.length x5) (9223372036854775807 : Nat) && (leN (List.length x8) (9223372036854775807 : Nat) && blksB x8))]

def ke3 : List SV → List Entry → Option Out
  | [.one ⟨true, [.val (.int .i64 x0), .ref 0, .ref 1, .ref 2, .ref 3]⟩, .one ⟨true, [.val (.int .i64 x1), .val (.int .i64 x2), .val (.int .i64 x3), .ref 4, .ref 5]⟩], [.row false 2 (.int .i64) x4, .row false 2 (.int .i64) x5, .row false 2 (.int .i64) x6, .row false 172 (.pair (.int .i64) (.pair (.int .i64) (.int .i64))) x7, .row false 178 (.pair (.int .i64) (.pair (.str) (.int .i64))) x8, .row false 150 (.pair (.int .i64) (.int .i64)) x9] => some ⟨(.one ⟨false, [(.val (.bool (k96 x0 x1 x2 x3 x4 x5 x6 x7 x8 x9)))]⟩), [(.row false 2 (CTy.int IntKind.i64) x4), (.row false 2 (CTy.int IntKind.i64) x5), (.row false 2 (CTy.int IntKind.i64) x6), (.row false 172 (CTy.pair (CTy.int IntKind.i64) (CTy.pair (CTy.int IntKind.i64) (CTy.int IntKind.i64))) x7), (.row false 178 (CTy.pair (CTy.int IntKind.i64) (CTy.pair CTy.str (CTy.int IntKind.i64))) x8), (.row false 150 (CTy.pair (CTy.int IntKind.i64) (CTy.int IntKind.i64)) x9)], [], [(k9b x0 x1 x2 x3 x4 x5 x6 x8 x9)]⟩
  | _, _ => none

def klb : PF Tryz.prog := PF.ofG Tryz.prog [kc0, PF.lend kc0, PF.fz kc0, k2s, PF.lend k2s, PF.fz k2s, ksx, kbx, PF.lend kbx, PF.fz kbx, kdb, PF.lend kdb, PF.fz kdb] [] hmix 192 Tryz.f192 Tryz.func192 (fun c _ => LOk.nil c) ke3 (by
  intro vs es r h; unfold ke3 at h; split at h
  · cases h; kernel_rfl
  · cases h)

end Go.SX

namespace Go.SX
open Go.Proofs
set_option maxRecDepth 100000

theorem k179 {i v o : Int} {bs : List TM} {st : List IN} (h : codeB i v o bs st = true) : ((0 ≤ i ∧ i ≤ 20) ∧ (0 ≤ v ∧ v ≤ 20) ∧ (0 ≤ o ∧ o ≤ 20) ∧ bs.length ≤ 2000 ∧ st.length ≤ 2000) ∧ blksB bs = true ∧ hgtOk i v o bs st = true := by
  simp only [codeB, Bool.and_eq_true] at h
  exact ⟨kyv.1 h.1, h.2.1, h.2.2⟩

def listNd (l : List (List Int)) : Bool := leN l.length 9223372036854775807 && l.all fun x => leN x.length 9223372036854775807
def pNd (i v o : Int) (bs : List TM) (st : List IN) (stk xs os : List Int) : Bool := codeB i v o bs st && (leN stk.length 9223372036854775807 && (leN xs.length 9223372036854775807 && leN os.length 9223372036854775807))

theorem k171 {i v o : Int} {bs : List TM} {st : List IN} (h : hgtOk i v o bs st = true) : (hgtL i v o bs st).length = st.length := by
  simp only [hgtOk] at h
  unfold hgtL
  cases hh : hgt i v o bs st 0 [] with
  | none => rw [hh] at h; cases h
  | some r =>
    obtain ⟨m, out⟩ := r
    have := k173 _ _ _ _ _ hh
    simpa using this

theorem specPoss (i v o : Int) (bs : List TM) (st : List IN) (k : Int) (stk xs os : List Int) (ss : List BS3) (h : pNd i v o bs st stk xs os = true) :
    krx i v o k bs st stk xs os ss = mchB i v o bs st k stk xs os ss ∧ ksf i v o k bs st stk xs os = true := by
  simp only [pNd, Bool.and_eq_true] at h
  obtain ⟨hC, t1, t2, t3⟩ := h
  obtain ⟨⟨ri, rv, ro, rb, rs⟩, hB, hok⟩ := k179 hC
  have hlen := k171 hok
  have e1 : k8x k st = !inR k 0 st.length := by simp only [k8x, k1u, inR_eq]
  simp only [krx, ksf, e1, mchB, t1, t2, t3, allT, kr3]
  cases hr : inR k 0 st.length with
  | false => simp
  | true =>
    obtain ⟨k0, k1⟩ := kul.1 hr
    have e2 : knl i v o k bs st stk = bitsB (hAt i v o bs st k) stk := by
      simp only [knl, hAt]
      by_cases hk : 0 < k
      · have hw : kgo k = k - 1 := wrap_i64 (by omega) (by omega)
        simp only [hw, atZ]
      · rw [ltI_f (by omega)]; rfl
    have n1 : leN st.length 2000 = true := leN_t rs
    have n2 : leN bs.length 2000 = true := leN_t rb
    have n3 : leN bs.length 9223372036854775807 = true := leN_t (by omega)
    rw [e2, n1, n2, n3, hlen]
    by_cases hk : 0 < k
    · have hw : kgo k = k - 1 := wrap_i64 (by omega) (by omega)
      have u1 : leI 0 (k - 1) = true := leI_t (by omega)
      have u2 : ltI (k - 1) (st.length : Int) = true := ltI_t (by omega)
      have u3 : ltN (k - 1).toNat st.length = true := ltN_t (by omega)
      rw [hw, u1, u2, u3]
      cases bitsB (hAt i v o bs st k) stk <;> cases bitsB o os <;> simp
    · rw [ltI_f (by omega)]
      cases bitsB (hAt i v o bs st k) stk <;> cases bitsB o os <;> simp

theorem implPoss (i v o : Int) (bs : List TM) (st : List IN) (k : Int) (stk xs os : List Int) (ss : List BS3) (h : pNd i v o bs st stk xs os = true) :
    k96 k i v o stk xs os ss bs st = mchB i v o bs st k stk xs os ss ∧ k9b k i v o stk xs os bs st = true := by
  simp only [pNd, Bool.and_eq_true] at h
  obtain ⟨hC, t1, t2, t3⟩ := h
  have hC2 := hC
  obtain ⟨⟨ri, rv, ro, rb, rs⟩, hB, hok⟩ := k179 hC
  simp only [codeB, Bool.and_eq_true] at hC2
  have hlen := k171 hok
  have e1 : k3s k 0 (kv st) = inR k 0 st.length := by simp only [k3s, inR_eq]; rfl
  simp only [k96, k9b, e1, mchB, t1, t2, t3, hC2.1, hB, allT, k8s]
  cases hr : inR k 0 st.length with
  | false => simp
  | true =>
    obtain ⟨k0, k1⟩ := kul.1 hr
    have e2 : k4w k i v o stk bs st = bitsB (hAt i v o bs st k) stk := by
      simp only [k4w, hAt]
      by_cases hk : 0 < k
      · have hw : k2n k = k - 1 := wrap_i64 (by omega) (by omega)
        simp only [hw, atZ]
      · rw [ltI_f (by omega)]; rfl
    have n3 : leN bs.length 9223372036854775807 = true := leN_t (by omega)
    rw [e2, n3, hlen]
    by_cases hk : 0 < k
    · have hw : k2n k = k - 1 := wrap_i64 (by omega) (by omega)
      have u1 : leI 0 (k - 1) = true := leI_t (by omega)
      have u2 : ltI (k - 1) (st.length : Int) = true := ltI_t (by omega)
      have u3 : ltN (k - 1).toNat st.length = true := ltN_t (by omega)
      rw [hw, u1, u2, u3]
      cases bitsB (hAt i v o bs st k) stk <;> cases bitsB o os <;> simp
    · rw [ltI_f (by omega)]
      cases bitsB (hAt i v o bs st k) stk <;> cases bitsB o os <;> simp

def kwu : List SV → List Entry → Option Out
  | [.one ⟨true, [.val (.int .i64 x0), .val (.int .i64 x1), .val (.int .i64 x2), .ref 0, .ref 1]⟩, .one ⟨true, [.val (.int .i64 x3), .ref 2, .ref 3, .ref 4, .ref 5]⟩], [.row false 178 (.pair (.int .i64) (.pair (.str) (.int .i64))) x4, .row false 150 (.pair (.int .i64) (.int .i64)) x5, .row false 2 (.int .i64) x6, .row false 2 (.int .i64) x7, .row false 2 (.int .i64) x8, .row false 172 (.pair (.int .i64) (.pair (.int .i64) (.int .i64))) x9] => some ⟨(.one ⟨false, [(.val (.bool (mchB x0 x1 x2 x4 x5 x3 x6 x7 x8 x9)))]⟩), [(.row false 178 (CTy.pair (CTy.int IntKind.i64) (CTy.pair CTy.str (CTy.int IntKind.i64))) x4), (.row false 150 (CTy.pair (CTy.int IntKind.i64) (CTy.int IntKind.i64)) x5), (.row false 2 (CTy.int IntKind.i64) x6), (.row false 2 (CTy.int IntKind.i64) x7), (.row false 2 (CTy.int IntKind.i64) x8), (.row false 172 (CTy.pair (CTy.int IntKind.i64) (CTy.pair (CTy.int IntKind.i64) (CTy.int IntKind.i64))) x9)], [], [pNd x0 x1 x2 x4 x5 x6 x7 x8]⟩
  | _, _ => none

def ks0 : PF Tryz.prog := PF.alt k12l kwu (by
  intro args es o h hnd; unfold kwu at h; split at h
  · rename_i x0 x1 x2 x3 x4 x5 x6 x7 x8 x9
    cases h
    have hnd := nd_fst hnd
    have hh := specPoss x0 x1 x2 x4 x5 x3 x6 x7 x8 x9 hnd
    obtain ⟨e0, en⟩ := hh
    exact altok rfl (nd_one en) (by simp only [e0] <;> rfl) rfl rfl
  · cases h)

def ke2 : List SV → List Entry → Option Out
  | [.one ⟨true, [.val (.int .i64 x0), .ref 0, .ref 1, .ref 2, .ref 3]⟩, .one ⟨true, [.val (.int .i64 x1), .val (.int .i64 x2), .val (.int .i64 x3), .ref 4, .ref 5]⟩], [.row false 2 (.int .i64) x4, .row false 2 (.int .i64) x5, .row false 2 (.int .i64) x6, .row false 172 (.pair (.int .i64) (.pair (.int .i64) (.int .i64))) x7, .row false 178 (.pair (.int .i64) (.pair (.str) (.int .i64))) x8, .row false 150 (.pair (.int .i64) (.int .i64)) x9] => some ⟨(.one ⟨false, [(.val (.bool (mchB x1 x2 x3 x8 x9 x0 x4 x5 x6 x7)))]⟩), [(.row false 2 (CTy.int IntKind.i64) x4), (.row false 2 (CTy.int IntKind.i64) x5), (.row false 2 (CTy.int IntKind.i64) x6), (.row false 172 (CTy.pair (CTy.int IntKind.i64) (CTy.pair (CTy.int IntKind.i64) (CTy.int IntKind.i64))) x7), (.row false 178 (CTy.pair (CTy.int IntKind.i64) (CTy.pair CTy.str (CTy.int IntKind.i64))) x8), (.row false 150 (CTy.pair (CTy.int IntKind.i64) (CTy.int IntKind.i64)) x9)], [], [pNd x1 x2 x3 x8 x9 x4 x5 x6]⟩
  | _, _ => none

def k98 : PF Tryz.prog := PF.alt klb ke2 (by
  intro args es o h hnd; unfold ke2 at h; split at h
  · rename_i x0 x1 x2 x3 x4 x5 x6 x7 x8 x9
    cases h
    have hnd := nd_fst hnd
    have hh := implPoss x1 x2 x3 x8 x9 x0 x4 x5 x6 x7 hnd
    obtain ⟨e0, en⟩ := hh
    exact altok rfl (nd_one en) (by simp only [e0] <;> rfl) rfl rfl
  · cases h)

end Go.SX

namespace Go.SX
open Go.Proofs
set_option maxRecDepth 100000

def stM (bs : List TM) (st : List IN) (inp : List Int) (k : Int) (stk xs os : List Int) (ss : List BS3) : MS := stpM bs st inp (k, stk, xs, os, ss)
def stNd (i v o : Int) (bs : List TM) (st : List IN) (inp : List Int) (k : Int) (stk xs os : List Int) (ss : List BS3) : Bool := ltI k (st.length : Int) && runNd i v o bs st inp k stk xs os ss

theorem k16a {i v o : Int} {bs : List TM} {st : List IN} {inp : List Int} {k : Int} {stk xs os : List Int} {ss : List BS3} (h : stNd i v o bs st inp k stk xs os ss = true) :
    codeB i v o bs st = true ∧ bitsB i inp = true ∧ OkM i v o bs st k stk xs os ss ∧ k < st.length ∧ st[k.toNat]? = some (insAt st k) := by
  simp only [stNd, runNd, Bool.and_eq_true] at h
  obtain ⟨h0, hC, hin, hm⟩ := h
  have hm := mch_ok hC hm
  have hlt : k < st.length := ltI_iff.1 h0
  exact ⟨hC, hin, hm, hlt, (stp_ok (m := (k, stk, xs, os, ss)) hC hin hm hlt).2⟩

theorem implSt (i v o : Int) (bs : List TM) (st : List IN) (inp : List Int) (k : Int) (stk xs os : List Int) (ss : List BS3) (h : stNd i v o bs st inp k stk xs os ss = true) :
    k3l k st = (stM bs st inp k stk xs os ss).1 ∧ k3p k bs st stk xs = (stM bs st inp k stk xs os ss).2.2.1 ∧
    k3r k bs st inp stk xs os = (stM bs st inp k stk xs os ss).2.2.2.1 ∧ k3m k bs st stk ss = (stM bs st inp k stk xs os ss).2.2.2.2 ∧
    k3n k bs st inp stk xs ss = (stM bs st inp k stk xs os ss).2.1 ∧ ku k bs st inp stk xs os ss = true := by
  obtain ⟨hC, hin, hm, hlt, hx⟩ := k16a h
  obtain ⟨e0, e4, e1, e2, e3, e5⟩ := implStep hC hin hm hlt hx
  exact ⟨e0, e1, e2, e3, e4, e5⟩

theorem specSt (i v o : Int) (bs : List TM) (st : List IN) (inp : List Int) (k : Int) (stk xs os : List Int) (ss : List BS3) (h : stNd i v o bs st inp k stk xs os ss = true) :
    kop k st = (stM bs st inp k stk xs os ss).1 ∧ kol k bs st stk xs ss inp = (stM bs st inp k stk xs os ss).2.1 ∧ kqj k bs st stk xs = (stM bs st inp k stk xs os ss).2.2.1 ∧
    kr0 k bs st stk xs os inp = (stM bs st inp k stk xs os ss).2.2.2.1 ∧ kqp k bs st stk ss = (stM bs st inp k stk xs os ss).2.2.2.2 ∧ k9t k bs st stk xs os ss inp = true := by
  obtain ⟨hC, hin, hm, hlt, hx⟩ := k16a h
  exact specStep hC hin hm hlt hx

def kf0 : List SV → List Entry → Option Out
  | [.one ⟨false, [.ptr 0 0]⟩, .one ⟨true, [.val (.int .i64 x0), .val (.int .i64 x1), .val (.int .i64 x2), .ref 1, .ref 2]⟩, .one ⟨false, [.ref 3]⟩], [.box 77 [.val (.int .i64 x3), .ref 4, .ref 5, .ref 6, .ref 7], .row false 178 (.pair (.int .i64) (.pair .str (.int .i64))) x4, .row false 150 (.pair (.int .i64) (.int .i64)) x5, .row false 2 (.int .i64) x6, .row true 2 (.int .i64) x7, .row true 2 (.int .i64) x8, .row true 2 (.int .i64) x9, .row true 172 (.pair (.int .i64) (.pair (.int .i64) (.int .i64))) x10] => some ⟨(.tup []), [(.box 77 [(.val (.int IntKind.i64 ((stM x4 x5 x6 x3 x7 x8 x9 x10).1))), (.ref 8), (.ref 5), (.ref 6), (.ref 7)]), (.row false 178 (CTy.pair (CTy.int IntKind.i64) (CTy.pair CTy.str (CTy.int IntKind.i64))) x4), (.row false 150 (CTy.pair (CTy.int IntKind.i64) (CTy.int IntKind.i64)) x5), (.row false 2 (CTy.int IntKind.i64) x6), .gone, (.row true 2 (CTy.int IntKind.i64) ((stM x4 x5 x6 x3 x7 x8 x9 x10).2.2.1)), (.row true 2 (CTy.int IntKind.i64) ((stM x4 x5 x6 x3 x7 x8 x9 x10).2.2.2.1)), (.row true 172 (CTy.pair (CTy.int IntKind.i64) (CTy.pair (CTy.int IntKind.i64) (CTy.int IntKind.i64))) ((stM x4 x5 x6 x3 x7 x8 x9 x10).2.2.2.2))], [(.row true 2 (CTy.int IntKind.i64) ((stM x4 x5 x6 x3 x7 x8 x9 x10).2.1))], [stNd x0 x1 x2 x4 x5 x6 x3 x7 x8 x9 x10]⟩
  | _, _ => none

def kmv : PF Tryz.prog := PF.alt kab kf0 (by
  intro args es o h hnd; unfold kf0 at h; split at h
  · rename_i x0 x1 x2 x3 x4 x5 x6 x7 x8 x9 x10
    cases h
    have hnd := nd_fst hnd
    have hh := implSt x0 x1 x2 x4 x5 x6 x3 x7 x8 x9 x10 hnd
    obtain ⟨e0, e1, e2, e3, e4, en⟩ := hh
    exact altok rfl (nd_one en) rfl (by simp only [e0, e1, e2, e3] <;> rfl) (by simp only [e4] <;> rfl)
  · cases h)

def k11u : List SV → List Entry → Option Out
  | [.one ⟨true, [.val (.int .i64 x0), .val (.int .i64 x1), .val (.int .i64 x2), .ref 0, .ref 1]⟩, .one ⟨true, [.val (.int .i64 x3), .ref 2, .ref 3, .ref 4, .ref 5]⟩, .one ⟨false, [.ref 6]⟩], [.row false 178 (.pair (.int .i64) (.pair (.str) (.int .i64))) x4, .row false 150 (.pair (.int .i64) (.int .i64)) x5, .row false 2 (.int .i64) x6, .row false 2 (.int .i64) x7, .row false 2 (.int .i64) x8, .row false 172 (.pair (.int .i64) (.pair (.int .i64) (.int .i64))) x9, .row false 2 (.int .i64) x10] => some ⟨(.one ⟨true, [(.val (.int IntKind.i64 ((stM x4 x5 x10 x3 x6 x7 x8 x9).1))), (.ref 7), (.ref 8), (.ref 9), (.ref 10)]⟩), [(.row false 178 (CTy.pair (CTy.int IntKind.i64) (CTy.pair CTy.str (CTy.int IntKind.i64))) x4), (.row false 150 (CTy.pair (CTy.int IntKind.i64) (CTy.int IntKind.i64)) x5), (.row false 2 (CTy.int IntKind.i64) x6), (.row false 2 (CTy.int IntKind.i64) x7), (.row false 2 (CTy.int IntKind.i64) x8), (.row false 172 (CTy.pair (CTy.int IntKind.i64) (CTy.pair (CTy.int IntKind.i64) (CTy.int IntKind.i64))) x9), (.row false 2 (CTy.int IntKind.i64) x10)], [(.row false 2 (CTy.int IntKind.i64) ((stM x4 x5 x10 x3 x6 x7 x8 x9).2.1)), (.row false 2 (CTy.int IntKind.i64) ((stM x4 x5 x10 x3 x6 x7 x8 x9).2.2.1)), (.row false 2 (CTy.int IntKind.i64) ((stM x4 x5 x10 x3 x6 x7 x8 x9).2.2.2.1)), (.row false 172 (CTy.pair (CTy.int IntKind.i64) (CTy.pair (CTy.int IntKind.i64) (CTy.int IntKind.i64))) ((stM x4 x5 x10 x3 x6 x7 x8 x9).2.2.2.2))], [stNd x0 x1 x2 x4 x5 x10 x3 x6 x7 x8 x9]⟩
  | _, _ => none

def kxk : PF Tryz.prog := PF.alt klp k11u (by
  intro args es o h hnd; unfold k11u at h; split at h
  · rename_i x0 x1 x2 x3 x4 x5 x6 x7 x8 x9 x10
    cases h
    have hnd := nd_fst hnd
    have hh := specSt x0 x1 x2 x4 x5 x10 x3 x6 x7 x8 x9 hnd
    obtain ⟨e0, e1, e2, e3, e4, en⟩ := hh
    exact altok rfl (nd_one en) (by simp only [e0] <;> rfl) rfl (by simp only [e1, e2, e3, e4] <;> rfl)
  · cases h)

end Go.SX

namespace Go.SX
open Go.Proofs
set_option maxRecDepth 100000

def klw (x0 : Int) (x1 : Int) (x2 : Int) (x3 : Int) (x4 : List (Int × ByteArray × Int)) (x5 : List (Int × Int)) (x6 : List Int) (x7 : List Int) (x8 : List Int) (x9 : List (Int × Int × Int)) (x10 : List Int) : Int :=
  bif !codeB x0 x1 x2 x4 x5 then (1 : Int) else bif bif !mchB x0 x1 x2 x4 x5 x3 x6 x7 x8 x9 then true else !bitsB x0 x10 then (2 : Int) else (0 : Int)

def kr5 (x0 : Int) (x1 : Int) (x2 : Int) (x3 : Int) (x4 : List (Int × ByteArray × Int)) (x5 : List (Int × Int)) (x6 : List Int) (x7 : List Int) (x8 : List Int) (x9 : List (Int × Int × Int)) (x10 : List Int) : Bool :=
  allT
  [tsOk x4, !codeB x0 x1 x2 x4 x5 || pNd x0 x1 x2 x4 x5 x6 x7 x8,
    !codeB x0 x1 x2 x4 x5 || (!(!!mchB x0 x1 x2 x4 x5 x3 x6 x7 x8 x9 && true) || leN (List.length x10) (9223372036854775807 : Nat))]

def k11l : List SV → List Entry → Option Out
  | [.one ⟨true, [.val (.int .i64 x0), .val (.int .i64 x1), .val (.int .i64 x2), .ref 0, .ref 1]⟩, .one ⟨true, [.val (.int .i64 x3), .ref 2, .ref 3, .ref 4, .ref 5]⟩, .one ⟨false, [.ref 6]⟩], [.row false 178 (.pair (.int .i64) (.pair (.str) (.int .i64))) x4, .row false 150 (.pair (.int .i64) (.int .i64)) x5, .row false 2 (.int .i64) x6, .row false 2 (.int .i64) x7, .row false 2 (.int .i64) x8, .row false 172 (.pair (.int .i64) (.pair (.int .i64) (.int .i64))) x9, .row false 2 (.int .i64) x10] => some ⟨(.one ⟨false, [(.val (.int IntKind.i64 (klw x0 x1 x2 x3 x4 x5 x6 x7 x8 x9 x10)))]⟩), [(.row false 178 (CTy.pair (CTy.int IntKind.i64) (CTy.pair CTy.str (CTy.int IntKind.i64))) x4), (.row false 150 (CTy.pair (CTy.int IntKind.i64) (CTy.int IntKind.i64)) x5), (.row false 2 (CTy.int IntKind.i64) x6), (.row false 2 (CTy.int IntKind.i64) x7), (.row false 2 (CTy.int IntKind.i64) x8), (.row false 172 (CTy.pair (CTy.int IntKind.i64) (CTy.pair (CTy.int IntKind.i64) (CTy.int IntKind.i64))) x9), (.row false 2 (CTy.int IntKind.i64) x10)], [], [(kr5 x0 x1 x2 x3 x4 x5 x6 x7 x8 x9 x10)]⟩
  | _, _ => none

def kog : PF Tryz.prog := PF.ofG Tryz.prog [ks0, PF.lend ks0, PF.fz ks0, kyh, PF.lend kyh, PF.fz kyh, kda, PF.lend kda, PF.fz kda] [] hmix 121 Tryz.f121 Tryz.func121 (fun c _ => LOk.nil c) k11l (by
  intro vs es r h; unfold k11l at h; split at h
  · cases h; kernel_rfl
  · cases h)

def kni (x0 : Int) (x1 : Int) (x2 : Int) (x3 : Int) (x4 : List (Int × ByteArray × Int)) (x5 : List (Int × Int)) (x6 : List Int) (x7 : List Int) (x8 : List Int) (x9 : List (Int × Int × Int)) (x10 : List Int) : Int :=
  bif bif klw x0 x1 x2 x3 x4 x5 x6 x7 x8 x9 x10 == (0 : Int) then x3 == (↑(List.length x5) : Int) else false then (5 : Int)
  else klw x0 x1 x2 x3 x4 x5 x6 x7 x8 x9 x10

def kcg (x0 : Int) (x1 : Int) (x2 : Int) (x3 : Int) (x4 : List (Int × ByteArray × Int)) (x5 : List (Int × Int)) (x6 : List Int) (x7 : List Int) (x8 : List Int) (x9 : List (Int × Int × Int)) (x10 : List Int) : Bool :=
  kni x0 x1 x2 x3 x4 x5 x6 x7 x8 x9 x10 != (0 : Int)

def ksd (x0 : Int) (x1 : Int) (x2 : Int) (x3 : Int) (x4 : List (Int × ByteArray × Int)) (x5 : List (Int × Int)) (x6 : List Int) (x7 : List Int) (x8 : List Int) (x9 : List (Int × Int × Int)) (x10 : List Int) : Int :=
  bif kcg x0 x1 x2 x3 x4 x5 x6 x7 x8 x9 x10 then (0 : Int) else Prod.fst (stM x4 x5 x10 x3 x6 x7 x8 x9)

def ksb (x0 : Int) (x1 : Int) (x2 : Int) (x3 : Int) (x4 : List (Int × ByteArray × Int)) (x5 : List (Int × Int)) (x6 : List Int) (x7 : List Int) (x8 : List Int) (x9 : List (Int × Int × Int)) (x10 : List Int) : Int :=
  bif kcg x0 x1 x2 x3 x4 x5 x6 x7 x8 x9 x10 then kni x0 x1 x2 x3 x4 x5 x6 x7 x8 x9 x10 else (0 : Int)

def kro (x0 : Int) (x1 : Int) (x2 : Int) (x3 : Int) (x4 : List (Int × ByteArray × Int)) (x5 : List (Int × Int)) (x6 : List Int) (x7 : List Int) (x8 : List Int) (x9 : List (Int × Int × Int)) (x10 : List Int) : List Int :=
  bif kcg x0 x1 x2 x3 x4 x5 x6 x7 x8 x9 x10 then [] else Prod.fst (Prod.snd (stM x4 x5 x10 x3 x6 x7 x8 x9))

def ks8 (x0 : Int) (x1 : Int) (x2 : Int) (x3 : Int) (x4 : List (Int × ByteArray × Int)) (x5 : List (Int × Int)) (x6 : List Int) (x7 : List Int) (x8 : List Int) (x9 : List (Int × Int × Int)) (x10 : List Int) : List Int :=
  bif kcg x0 x1 x2 x3 x4 x5 x6 x7 x8 x9 x10 then [] else Prod.fst (Prod.snd (Prod.snd (stM x4 x5 x10 x3 x6 x7 x8 x9)))

def ks6 (x0 : Int) (x1 : Int) (x2 : Int) (x3 : Int) (x4 : List (Int × ByteArray × Int)) (x5 : List (Int × Int)) (x6 : List Int) (x7 : List Int) (x8 : List Int) (x9 : List (Int × Int × Int)) (x10 : List Int) : List Int :=
  bif kcg x0 x1 x2 x3 x4 x5 x6 x7 x8 x9 x10 then [] else Prod.fst (Prod.snd (Prod.snd (Prod.snd (stM x4 x5 x10 x3 x6 x7 x8 x9))))

def ks7 (x0 : Int) (x1 : Int) (x2 : Int) (x3 : Int) (x4 : List (Int × ByteArray × Int)) (x5 : List (Int × Int)) (x6 : List Int) (x7 : List Int) (x8 : List Int) (x9 : List (Int × Int × Int)) (x10 : List Int) : List (Int × (Int × Int)) :=
  bif kcg x0 x1 x2 x3 x4 x5 x6 x7 x8 x9 x10 then [] else Prod.snd (Prod.snd (Prod.snd (Prod.snd (stM x4 x5 x10 x3 x6 x7 x8 x9))))

def ksg (x0 : Int) (x1 : Int) (x2 : Int) (x3 : Int) (x4 : List (Int × ByteArray × Int)) (x5 : List (Int × Int)) (x6 : List Int) (x7 : List Int) (x8 : List Int) (x9 : List (Int × Int × Int)) (x10 : List Int) : Bool :=
  allT
  [kr5 x0 x1 x2 x3 x4 x5 x6 x7 x8 x9 x10, kcg x0 x1 x2 x3 x4 x5 x6 x7 x8 x9 x10 || stNd x0 x1 x2 x4 x5 x10 x3 x6 x7 x8 x9]

def kwa : List SV → List Entry → Option Out
  | [.one ⟨true, [.val (.int .i64 x0), .val (.int .i64 x1), .val (.int .i64 x2), .ref 0, .ref 1]⟩, .one ⟨true, [.val (.int .i64 x3), .ref 2, .ref 3, .ref 4, .ref 5]⟩, .one ⟨false, [.ref 6]⟩], [.row false 178 (.pair (.int .i64) (.pair (.str) (.int .i64))) x4, .row false 150 (.pair (.int .i64) (.int .i64)) x5, .row false 2 (.int .i64) x6, .row false 2 (.int .i64) x7, .row false 2 (.int .i64) x8, .row false 172 (.pair (.int .i64) (.pair (.int .i64) (.int .i64))) x9, .row false 2 (.int .i64) x10] => some ⟨(.tup [⟨true, [(.val (.int IntKind.i64 (ksd x0 x1 x2 x3 x4 x5 x6 x7 x8 x9 x10))), (.ref 7), (.ref 8), (.ref 9), (.ref 10)]⟩, ⟨false, [(.val (.int IntKind.i64 (ksb x0 x1 x2 x3 x4 x5 x6 x7 x8 x9 x10)))]⟩]), [(.row false 178 (CTy.pair (CTy.int IntKind.i64) (CTy.pair CTy.str (CTy.int IntKind.i64))) x4), (.row false 150 (CTy.pair (CTy.int IntKind.i64) (CTy.int IntKind.i64)) x5), (.row false 2 (CTy.int IntKind.i64) x6), (.row false 2 (CTy.int IntKind.i64) x7), (.row false 2 (CTy.int IntKind.i64) x8), (.row false 172 (CTy.pair (CTy.int IntKind.i64) (CTy.pair (CTy.int IntKind.i64) (CTy.int IntKind.i64))) x9), (.row false 2 (CTy.int IntKind.i64) x10)], [(.row false 2 (CTy.int IntKind.i64) (kro x0 x1 x2 x3 x4 x5 x6 x7 x8 x9 x10)), (.row false 2 (CTy.int IntKind.i64) (ks8 x0 x1 x2 x3 x4 x5 x6 x7 x8 x9 x10)), (.row false 2 (CTy.int IntKind.i64) (ks6 x0 x1 x2 x3 x4 x5 x6 x7 x8 x9 x10)), (.row false 172 (CTy.pair (CTy.int IntKind.i64) (CTy.pair (CTy.int IntKind.i64) (CTy.int IntKind.i64))) (ks7 x0 x1 x2 x3 x4 x5 x6 x7 x8 x9 x10))], [(ksg x0 x1 x2 x3 x4 x5 x6 x7 x8 x9 x10)]⟩
  | _, _ => none

def k12o : PF Tryz.prog := PF.ofG Tryz.prog [kog, PF.lend kog, PF.fz kog, kxk, PF.lend kxk, PF.fz kxk] [] hmix 50 Tryz.f50 Tryz.func50 (fun c _ => LOk.nil c) kwa (by
  intro vs es r h; unfold kwa at h; split at h
  · cases h; kernel_rfl
  · cases h)

def kjt (x0 : List Int) (x1 : Int) : Bool :=
  !bitsB x1 x0

def kju (x0 : List Int) : Bool :=
  allT [leN (List.length x0) (9223372036854775807 : Nat)]

def kpi : List SV → List Entry → Option Out
  | [(.one ⟨false, [(.ref 0)]⟩), (.one ⟨false, [(.ptr 1 0)]⟩)], [(.row false 2 (CTy.int IntKind.i64) x0), (.box 34 [(.val (.int IntKind.i64 x1)), (.val (.int IntKind.i64 x2)), (.val (.int IntKind.i64 x3)), (.ref 2), (.ref 3)]), (.row false 178 (CTy.pair (CTy.int IntKind.i64) (CTy.pair CTy.str (CTy.int IntKind.i64))) x4), (.row false 150 (CTy.pair (CTy.int IntKind.i64) (CTy.int IntKind.i64)) x5)] => some ⟨(.one ⟨false, [(.val (.bool (kjt x0 x1)))]⟩), [(.row false 2 (CTy.int IntKind.i64) x0), (.box 34 [(.val (.int IntKind.i64 x1)), (.val (.int IntKind.i64 x2)), (.val (.int IntKind.i64 x3)), (.ref 2), (.ref 3)]), (.row false 178 (CTy.pair (CTy.int IntKind.i64) (CTy.pair CTy.str (CTy.int IntKind.i64))) x4), (.row false 150 (CTy.pair (CTy.int IntKind.i64) (CTy.int IntKind.i64)) x5)], [], [(kju x0)]⟩
  | _, _ => none

def kad : PF Tryz.prog := PF.ofG Tryz.prog [kdb, PF.lend kdb, PF.fz kdb] [] hmix 193 Tryz.f193 Tryz.func193 (fun c _ => LOk.nil c) kpi (by
  intro vs es r h; unfold kpi at h; split at h
  · cases h; kernel_rfl
  · cases h)

abbrev k1r := Int × Int × Int × Int × Int × List (List Int) × List (Int × (ByteArray × Int)) × List (Int × Int)

def k26 (y0 : Int) (y5 : List (List Int)) : List Int :=
  Option.getD y5[Int.toNat y0]? (dflt (CTy.sl (2 : TypeId) (CTy.int IntKind.i64)))

def k52 (y0 : Int) (y1 : Int) : Bool :=
  ltI y0 y1

def k88 (y0 : Int) : Bool :=
  leI (0 : Int) y0

def k81 (y0 : Int) (y5 : List (List Int)) : Bool :=
  ltI y0 (↑(List.length y5) : Int)

def k86 (y0 : Int) (y5 : List (List Int)) : Bool :=
  ltN (Int.toNat y0) (List.length y5)

def k82 (y0 : Int) (y5 : List (List Int)) : Bool :=
  kju (k26 y0 y5)

def k4z (y0 : Int) (y2 : Int) (y5 : List (List Int)) : Bool :=
  kjt (k26 y0 y5) y2

def k83 (y0 : Int) : Int :=
  IntKind.wrap IntKind.i64 (y0 + (1 : Int))

def ko1 : k1r → List (Nat × SV)
  | (y0, y1, _, _, _, _, _, _) => [(8, (.one ⟨false, [(.val (.int IntKind.i64 y0))]⟩)), (7, (.one ⟨false, [(.val (.int IntKind.i64 y1))]⟩)), (1, (.one ⟨false, [(.clo 193 [0])]⟩)), (0, (.one ⟨false, [(.ref 1)]⟩))]

def knz : k1r → List (Nat × Entry)
  | (_, _, y2, y3, y4, y5, y6, y7) => [(0, (.box 34 [(.val (.int IntKind.i64 y2)), (.val (.int IntKind.i64 y3)), (.val (.int IntKind.i64 y4)), (.ref 2), (.ref 3)])), (1, (.row false 41 (CTy.sl (2 : TypeId) (CTy.int IntKind.i64)) y5)), (2, (.row false 178 (CTy.pair (CTy.int IntKind.i64) (CTy.pair CTy.str (CTy.int IntKind.i64))) y6)), (3, (.row false 150 (CTy.pair (CTy.int IntKind.i64) (CTy.int IntKind.i64)) y7))]

def knr : Nat → k1r → List (Nat × SV)
  | 0, (y0, _, _, _, _, _, _, _) => [(4, (.one ⟨false, [(.val (.int IntKind.i64 y0))]⟩))]
  | _, (_, _, _, _, _, _, _, _) => []

def knt : Nat → k1r → List (Nat × Entry)
  | 0, (_, _, y2, y3, y4, y5, y6, y7) => [(0, (.box 34 [(.val (.int IntKind.i64 y2)), (.val (.int IntKind.i64 y3)), (.val (.int IntKind.i64 y4)), (.ref 2), (.ref 3)])), (1, (.row false 41 (CTy.sl (2 : TypeId) (CTy.int IntKind.i64)) y5)), (2, (.row false 178 (CTy.pair (CTy.int IntKind.i64) (CTy.pair CTy.str (CTy.int IntKind.i64))) y6)), (3, (.row false 150 (CTy.pair (CTy.int IntKind.i64) (CTy.int IntKind.i64)) y7))]
  | _, (_, _, y2, y3, y4, y5, y6, y7) => [(0, (.box 34 [(.val (.int IntKind.i64 y2)), (.val (.int IntKind.i64 y3)), (.val (.int IntKind.i64 y4)), (.ref 2), (.ref 3)])), (1, (.row false 41 (CTy.sl (2 : TypeId) (CTy.int IntKind.i64)) y5)), (2, (.row false 178 (CTy.pair (CTy.int IntKind.i64) (CTy.pair CTy.str (CTy.int IntKind.i64))) y6)), (3, (.row false 150 (CTy.pair (CTy.int IntKind.i64) (CTy.int IntKind.i64)) y7))]

def k4n : k1r → LT k1r
  | (y0, y1, y2, y3, y4, y5, y6, y7) => .ite (k52 y0 y1) (.need [(k88 y0), (k81 y0 y5), (k86 y0 y5), (k82 y0 y5)] (.ite (k4z y0 y2 y5) (.ext 0 [(0, 0), (1, 1), (2, 2), (3, 3)]) (.nrm ((k83 y0), y1, y2, y3, y4, y5, y6, y7) [(0, 0), (1, 1), (2, 2), (3, 3)]))) (.ext 1 [(0, 0), (1, 1), (2, 2), (3, 3)])

def kbo (s : St) : Option k1r :=
  (match s.look 8 with
  | some ⟨none, (.one ⟨false, [(.val (.int IntKind.i64 y0))]⟩)⟩ =>
  (match s.look 7 with
  | some ⟨none, (.one ⟨false, [(.val (.int IntKind.i64 y1))]⟩)⟩ =>
  (match s.look 1 with
  | some ⟨none, (.one ⟨false, [(.clo 193 [1])]⟩)⟩ =>
  (match s.look 0 with
  | some ⟨none, (.one ⟨false, [(.ref 0)]⟩)⟩ =>
  (match s.ent 1 with
  | some (.box 34 [(.val (.int IntKind.i64 y2)), (.val (.int IntKind.i64 y3)), (.val (.int IntKind.i64 y4)), (.ref 2), (.ref 3)]) =>
  (match s.ent 0 with
  | some (.row false 41 (CTy.sl (2 : TypeId) (CTy.int IntKind.i64)) y5) =>
  (match s.ent 2 with
  | some (.row false 178 (CTy.pair (CTy.int IntKind.i64) (CTy.pair CTy.str (CTy.int IntKind.i64))) y6) =>
  (match s.ent 3 with
  | some (.row false 150 (CTy.pair (CTy.int IntKind.i64) (CTy.int IntKind.i64)) y7) =>
  some (y0, y1, y2, y3, y4, y5, y6, y7)
  | _ => none)
  | _ => none)
  | _ => none)
  | _ => none)
  | _ => none)
  | _ => none)
  | _ => none)
  | _ => none)

def k15 : Lp k1r where
  h := ⟨[9, 10, 5, 11, 12, 13, 14, 15, 16, 17, 4, 18, 8], [0, 1, 2, 3], [], []⟩
  JL := ko1
  JE := knz
  XL := knr
  XE := knt
  q := fun j => match j with | 0 => .ret | _ => .exit 0
  tags := [0, 1]
  lt := k4n
  fuel := fun (y0, y1, y2, y3, y4, y5, y6, y7) => y0.natAbs + y1.natAbs + y2.natAbs + y3.natAbs + y4.natAbs + y5.length + y6.length + y7.length
  fix := fun (_, y1, y2, y3, y4, y5, y6, y7) (y0, _, _, _, _, _, _, _) => (y0, y1, y2, y3, y4, y5, y6, y7)
  σ := [(0, 1), (1, 0), (2, 2), (3, 3)]
  rd := kbo

theorem kna : LoopOk Tryz.prog (fun k => Nat.blt k Tryz.f217.ntmps) k15.F (loopAt Tryz.f217 0) := by
  refine Lp.ok (tbl := [kad, PF.lend kad, PF.fz kad]) (lf := []) hmix k15 (by kernel_rfl) (LOk.nil _) (fun _ => rfl) (fun j _ => by unfold k15; match j with | 0 => rfl | _ + 1 => rfl) ?_ ?_ ?_ ?_ (fun _ => rfl) ?_
  · intro x; obtain ⟨y0, y1, y2, y3, y4, y5, y6, y7⟩ := x; kernel_rfl
  · intro x; obtain ⟨y0, y1, y2, y3, y4, y5, y6, y7⟩ := x; kernel_rfl
  · intro s x h
    have h : kbo s = some x := h
    unfold kbo at h
    repeat' split at h
    all_goals cases h
    exact ⟨absS_cons (by assumption) rfl (absS_cons (by assumption) rfl (absS_cons (by assumption) rfl (absS_cons (by assumption) rfl (rfl)))), absE_cons rfl (by assumption) rfl (absE_cons rfl (by assumption) rfl (absE_cons rfl (by assumption) rfl (absE_cons rfl (by assumption) rfl (rfl))))⟩
  · intro x; obtain ⟨y0, y1, y2, y3, y4, y5, y6, y7⟩ := x; kernel_rfl
  · intro x z; obtain ⟨y0, y1, y2, y3, y4, y5, y6, y7⟩ := x; exact (And.intro (And.intro trivial rfl) trivial)

def k8z (x0 : List (List Int)) (x1 : Int) (x2 : Int) (x3 : Int) (x4 : List (Int × ByteArray × Int)) (x5 : List (Int × Int)) : Int × Int × Int × Int × Int × List (List Int) × List (Int × ByteArray × Int) × List (Int × Int) :=
  ((0 : Int), (↑(List.length x0) : Int), x1, x2, x3, x0, x4, x5)

def k6d (x0 : List (List Int)) (x1 : Int) (x2 : Int) (x3 : Int) (x4 : List (Int × ByteArray × Int)) (x5 : List (Int × Int)) : Bool :=
  Nat.beq (Prod.fst (Lp.res k15 (k8z x0 x1 x2 x3 x4 x5))) (0 : Nat)

def kdi (x0 : List (List Int)) (x1 : Int) (x2 : Int) (x3 : Int) (x4 : List (Int × ByteArray × Int)) (x5 : List (Int × Int)) : Int :=
  bif k6d x0 x1 x2 x3 x4 x5 then
  Prod.fst (Prod.snd (Lp.res k15 (k8z x0 x1 x2 x3 x4 x5)))
  else (-1 : Int)

def kif (x0 : List (List Int)) (x1 : Int) (x2 : Int) (x3 : Int) (x4 : List (Int × ByteArray × Int)) (x5 : List (Int × Int)) : Int :=
  bif k6d x0 x1 x2 x3 x4 x5 then x1 else x1

def kih (x0 : List (List Int)) (x1 : Int) (x2 : Int) (x3 : Int) (x4 : List (Int × ByteArray × Int)) (x5 : List (Int × Int)) : Int :=
  bif k6d x0 x1 x2 x3 x4 x5 then x2 else x2

def kij (x0 : List (List Int)) (x1 : Int) (x2 : Int) (x3 : Int) (x4 : List (Int × ByteArray × Int)) (x5 : List (Int × Int)) : Int :=
  bif k6d x0 x1 x2 x3 x4 x5 then x3 else x3

def kdf (x0 : List (List Int)) (x1 : Int) (x2 : Int) (x3 : Int) (x4 : List (Int × ByteArray × Int)) (x5 : List (Int × Int)) : Bool :=
  allT [Lp.fin k15 (k8z x0 x1 x2 x3 x4 x5)]

def kia : List SV → List Entry → Option Out
  | [(.one ⟨false, [(.ref 0)]⟩), (.one ⟨false, [(.clo 193 [1])]⟩)], [(.row false 41 (CTy.sl (2 : TypeId) (CTy.int IntKind.i64)) x0), (.box 34 [(.val (.int IntKind.i64 x1)), (.val (.int IntKind.i64 x2)), (.val (.int IntKind.i64 x3)), (.ref 2), (.ref 3)]), (.row false 178 (CTy.pair (CTy.int IntKind.i64) (CTy.pair CTy.str (CTy.int IntKind.i64))) x4), (.row false 150 (CTy.pair (CTy.int IntKind.i64) (CTy.int IntKind.i64)) x5)] => some ⟨(.one ⟨false, [(.val (.int IntKind.i64 (kdi x0 x1 x2 x3 x4 x5)))]⟩), [(.row false 41 (CTy.sl (2 : TypeId) (CTy.int IntKind.i64)) x0), (.box 34 [(.val (.int IntKind.i64 (kif x0 x1 x2 x3 x4 x5))), (.val (.int IntKind.i64 (kih x0 x1 x2 x3 x4 x5))), (.val (.int IntKind.i64 (kij x0 x1 x2 x3 x4 x5))), (.ref 2), (.ref 3)]), (.row false 178 (CTy.pair (CTy.int IntKind.i64) (CTy.pair CTy.str (CTy.int IntKind.i64))) x4), (.row false 150 (CTy.pair (CTy.int IntKind.i64) (CTy.int IntKind.i64)) x5)], [], [(kdf x0 x1 x2 x3 x4 x5)]⟩
  | _, _ => none

def kdh : PF Tryz.prog := PF.ofG Tryz.prog [kad, PF.lend kad, PF.fz kad] [k15.F] hmix 217 Tryz.f217 Tryz.func217 (LOk.fnT (l := [loopAt Tryz.f217 0]) (by kernel_rfl) (.cons kna (.nil _))) kia (by
  intro vs es r h; unfold kia at h; split at h
  · cases h; kernel_rfl
  · cases h)

def kc3 (x0 : List (List Int)) (x1 : Int) (x2 : Int) (x3 : Int) (x4 : List (Int × ByteArray × Int)) (x5 : List (Int × Int)) : Bool :=
  leI (0 : Int) (kdi x0 x1 x2 x3 x4 x5)

def kos (x0 : List (List Int)) (x1 : Int) (x2 : Int) (x3 : Int) (x4 : List (Int × ByteArray × Int)) (x5 : List (Int × Int)) : Int :=
  kif x0 x1 x2 x3 x4 x5

def koq (x0 : List (List Int)) (x1 : Int) (x2 : Int) (x3 : Int) (x4 : List (Int × ByteArray × Int)) (x5 : List (Int × Int)) : Int :=
  kih x0 x1 x2 x3 x4 x5

def koh (x0 : List (List Int)) (x1 : Int) (x2 : Int) (x3 : Int) (x4 : List (Int × ByteArray × Int)) (x5 : List (Int × Int)) : Int :=
  kij x0 x1 x2 x3 x4 x5

def kby (x0 : List (List Int)) (x1 : Int) (x2 : Int) (x3 : Int) (x4 : List (Int × ByteArray × Int)) (x5 : List (Int × Int)) : Bool :=
  allT [kdf x0 x1 x2 x3 x4 x5]

def kgn : List SV → List Entry → Option Out
  | [(.one ⟨false, [(.ref 0)]⟩), (.one ⟨false, [(.clo 193 [1])]⟩)], [(.row false 41 (CTy.sl (2 : TypeId) (CTy.int IntKind.i64)) x0), (.box 34 [(.val (.int IntKind.i64 x1)), (.val (.int IntKind.i64 x2)), (.val (.int IntKind.i64 x3)), (.ref 2), (.ref 3)]), (.row false 178 (CTy.pair (CTy.int IntKind.i64) (CTy.pair CTy.str (CTy.int IntKind.i64))) x4), (.row false 150 (CTy.pair (CTy.int IntKind.i64) (CTy.int IntKind.i64)) x5)] => some ⟨(.one ⟨false, [(.val (.bool (kc3 x0 x1 x2 x3 x4 x5)))]⟩), [(.row false 41 (CTy.sl (2 : TypeId) (CTy.int IntKind.i64)) x0), (.box 34 [(.val (.int IntKind.i64 (kos x0 x1 x2 x3 x4 x5))), (.val (.int IntKind.i64 (koq x0 x1 x2 x3 x4 x5))), (.val (.int IntKind.i64 (koh x0 x1 x2 x3 x4 x5))), (.ref 2), (.ref 3)]), (.row false 178 (CTy.pair (CTy.int IntKind.i64) (CTy.pair CTy.str (CTy.int IntKind.i64))) x4), (.row false 150 (CTy.pair (CTy.int IntKind.i64) (CTy.int IntKind.i64)) x5)], [], [(kby x0 x1 x2 x3 x4 x5)]⟩
  | _, _ => none

def kc4 : PF Tryz.prog := PF.ofG Tryz.prog [kdh, PF.lend kdh, PF.fz kdh] [] hmix 163 Tryz.f163 Tryz.func163 (fun c _ => LOk.nil c) kgn (by
  intro vs es r h; unfold kgn at h; split at h
  · cases h; kernel_rfl
  · cases h)

def kk7 (x0 : Int) (x1 : Int) (x2 : Int) (x3 : Int) (x4 : List (Int × ByteArray × Int)) (x5 : List (Int × Int)) (x6 : List Int) (x7 : List Int) (x8 : List Int) (x9 : List (Int × Int × Int)) (x10 : List (List Int)) : Int :=
  bif !codeB x0 x1 x2 x4 x5 then (1 : Int)
  else
  bif bif !mchB x0 x1 x2 x4 x5 x3 x6 x7 x8 x9 then true else kc3 x10 x0 x1 x2 x4 x5 then (2 : Int) else (0 : Int)

def kkr (x0 : Int) (x1 : Int) (x2 : Int) (x3 : Int) (x4 : List (Int × ByteArray × Int)) (x5 : List (Int × Int)) (x6 : List Int) (x7 : List Int) (x8 : List Int) (x9 : List (Int × Int × Int)) (x10 : List (List Int)) : Bool :=
  allT
  [!codeB x0 x1 x2 x4 x5 || pNd x0 x1 x2 x4 x5 x6 x7 x8,
    !codeB x0 x1 x2 x4 x5 || (!(!!mchB x0 x1 x2 x4 x5 x3 x6 x7 x8 x9 && true) || kby x10 x0 x1 x2 x4 x5)]

def kwi : List SV → List Entry → Option Out
  | [.one ⟨true, [.val (.int .i64 x0), .val (.int .i64 x1), .val (.int .i64 x2), .ref 0, .ref 1]⟩, .one ⟨true, [.val (.int .i64 x3), .ref 2, .ref 3, .ref 4, .ref 5]⟩, .one ⟨false, [.ref 6]⟩], [.row false 178 (.pair (.int .i64) (.pair (.str) (.int .i64))) x4, .row false 150 (.pair (.int .i64) (.int .i64)) x5, .row false 2 (.int .i64) x6, .row false 2 (.int .i64) x7, .row false 2 (.int .i64) x8, .row false 172 (.pair (.int .i64) (.pair (.int .i64) (.int .i64))) x9, .row false 41 (.sl 2 (.int .i64)) x10] => some ⟨(.one ⟨false, [(.val (.int IntKind.i64 (kk7 x0 x1 x2 x3 x4 x5 x6 x7 x8 x9 x10)))]⟩), [(.row false 178 (CTy.pair (CTy.int IntKind.i64) (CTy.pair CTy.str (CTy.int IntKind.i64))) x4), (.row false 150 (CTy.pair (CTy.int IntKind.i64) (CTy.int IntKind.i64)) x5), (.row false 2 (CTy.int IntKind.i64) x6), (.row false 2 (CTy.int IntKind.i64) x7), (.row false 2 (CTy.int IntKind.i64) x8), (.row false 172 (CTy.pair (CTy.int IntKind.i64) (CTy.pair (CTy.int IntKind.i64) (CTy.int IntKind.i64))) x9), (.row false 41 (CTy.sl (2 : TypeId) (CTy.int IntKind.i64)) x10)], [], [(kkr x0 x1 x2 x3 x4 x5 x6 x7 x8 x9 x10)]⟩
  | _, _ => none

def khj : PF Tryz.prog := PF.ofG Tryz.prog [k98, PF.lend k98, PF.fz k98, kym, PF.lend kym, PF.fz kym, kc4, PF.lend kc4, PF.fz kc4] [] hmix 123 Tryz.f123 Tryz.func123 (fun c _ => LOk.nil c) kwi (by
  intro vs es r h; unfold kwi at h; split at h
  · cases h; kernel_rfl
  · cases h)

def k4r (x1 : List Int) (x2 : List Int) (x3 : List Int) (x4 : List (Int × Int × Int)) : Bool :=
  allT
  [leN (List.length x1) (1048576 : Nat), leN (List.length x2) (1048576 : Nat), leN (List.length x3) (1048576 : Nat),
    leN (List.length x4) (1048576 : Nat)]

def kgb : List SV → List Entry → Option Out
  | [.one ⟨true, [.val (.int .i64 x0), .ref 0, .ref 1, .ref 2, .ref 3]⟩], [.row false 2 (.int .i64) x1, .row false 2 (.int .i64) x2, .row false 2 (.int .i64) x3, .row false 172 (.pair (.int .i64) (.pair (.int .i64) (.int .i64))) x4] => some ⟨(.one ⟨true, [(.val (.int IntKind.i64 x0)), (.ref 4), (.ref 5), (.ref 6), (.ref 7)]⟩), [(.row false 2 (CTy.int IntKind.i64) x1), (.row false 2 (CTy.int IntKind.i64) x2), (.row false 2 (CTy.int IntKind.i64) x3), (.row false 172 (CTy.pair (CTy.int IntKind.i64) (CTy.pair (CTy.int IntKind.i64) (CTy.int IntKind.i64))) x4)], [(.row true 2 (CTy.int IntKind.i64) x1), (.row true 2 (CTy.int IntKind.i64) x2), (.row true 2 (CTy.int IntKind.i64) x3), (.row true 172 (CTy.pair (CTy.int IntKind.i64) (CTy.pair (CTy.int IntKind.i64) (CTy.int IntKind.i64))) x4)], [(k4r x1 x2 x3 x4)]⟩
  | _, _ => none

def k3c : PF Tryz.prog := PF.ofG Tryz.prog [kao, PF.lend kao, PF.fz kao, kgz, PF.lend kgz, PF.fz kgz] [] hmix 125 Tryz.f125 Tryz.func125 (fun c _ => LOk.nil c) kgb (by
  intro vs es r h; unfold kgb at h; split at h
  · cases h; kernel_rfl
  · cases h)

def kr4 (x0 : Int) (x1 : Int) (x2 : Int) (x3 : Int) (x4 : List (Int × ByteArray × Int)) (x5 : List (Int × Int)) (x6 : List Int) (x7 : List Int) (x8 : List Int) (x9 : List (Int × Int × Int)) (x10 : List Int) : Int :=
  kk7 x0 x1 x2 x3 x4 x5 x6 x7 x8 x9 [x10]

def kaz (x0 : Int) (x1 : Int) (x2 : Int) (x3 : Int) (x4 : List (Int × ByteArray × Int)) (x5 : List (Int × Int)) (x6 : List Int) (x7 : List Int) (x8 : List Int) (x9 : List (Int × Int × Int)) (x10 : List Int) : Bool :=
  kr4 x0 x1 x2 x3 x4 x5 x6 x7 x8 x9 x10 != (0 : Int)

def krl (x0 : Int) (x1 : Int) (x2 : Int) (x3 : Int) (x4 : List (Int × ByteArray × Int)) (x5 : List (Int × Int)) (x6 : List Int) (x7 : List Int) (x8 : List Int) (x9 : List (Int × Int × Int)) (x10 : List Int) : Int :=
  bif kaz x0 x1 x2 x3 x4 x5 x6 x7 x8 x9 x10 then (0 : Int)
  else bif x3 == kv x5 then (0 : Int) else Prod.fst (stM x4 x5 x10 x3 x6 x7 x8 x9)

def krz (x0 : Int) (x1 : Int) (x2 : Int) (x3 : Int) (x4 : List (Int × ByteArray × Int)) (x5 : List (Int × Int)) (x6 : List Int) (x7 : List Int) (x8 : List Int) (x9 : List (Int × Int × Int)) (x10 : List Int) : Int :=
  bif kaz x0 x1 x2 x3 x4 x5 x6 x7 x8 x9 x10 then kr4 x0 x1 x2 x3 x4 x5 x6 x7 x8 x9 x10
  else bif x3 == kv x5 then (5 : Int) else (0 : Int)

def krh (x0 : Int) (x1 : Int) (x2 : Int) (x3 : Int) (x4 : List (Int × ByteArray × Int)) (x5 : List (Int × Int)) (x6 : List Int) (x7 : List Int) (x8 : List Int) (x9 : List (Int × Int × Int)) (x10 : List Int) : List Int :=
  bif kaz x0 x1 x2 x3 x4 x5 x6 x7 x8 x9 x10 then []
  else bif x3 == kv x5 then [] else Prod.fst (Prod.snd (stM x4 x5 x10 x3 x6 x7 x8 x9))

def krj (x0 : Int) (x1 : Int) (x2 : Int) (x3 : Int) (x4 : List (Int × ByteArray × Int)) (x5 : List (Int × Int)) (x6 : List Int) (x7 : List Int) (x8 : List Int) (x9 : List (Int × Int × Int)) (x10 : List Int) : List Int :=
  bif kaz x0 x1 x2 x3 x4 x5 x6 x7 x8 x9 x10 then []
  else bif x3 == kv x5 then [] else Prod.fst (Prod.snd (Prod.snd (stM x4 x5 x10 x3 x6 x7 x8 x9)))

def krw (x0 : Int) (x1 : Int) (x2 : Int) (x3 : Int) (x4 : List (Int × ByteArray × Int)) (x5 : List (Int × Int)) (x6 : List Int) (x7 : List Int) (x8 : List Int) (x9 : List (Int × Int × Int)) (x10 : List Int) : List Int :=
  bif kaz x0 x1 x2 x3 x4 x5 x6 x7 x8 x9 x10 then []
  else bif x3 == kv x5 then [] else Prod.fst (Prod.snd (Prod.snd (Prod.snd (stM x4 x5 x10 x3 x6 x7 x8 x9))))

def ks4 (x0 : Int) (x1 : Int) (x2 : Int) (x3 : Int) (x4 : List (Int × ByteArray × Int)) (x5 : List (Int × Int)) (x6 : List Int) (x7 : List Int) (x8 : List Int) (x9 : List (Int × Int × Int)) (x10 : List Int) : List (Int × (Int × Int)) :=
  bif kaz x0 x1 x2 x3 x4 x5 x6 x7 x8 x9 x10 then []
  else bif x3 == kv x5 then [] else Prod.snd (Prod.snd (Prod.snd (Prod.snd (stM x4 x5 x10 x3 x6 x7 x8 x9))))

def krf (x0 : Int) (x1 : Int) (x2 : Int) (x3 : Int) (x4 : List (Int × ByteArray × Int)) (x5 : List (Int × Int)) (x6 : List Int) (x7 : List Int) (x8 : List Int) (x9 : List (Int × Int × Int)) (x10 : List Int) : Bool :=
  allT
  [kkr x0 x1 x2 x3 x4 x5 x6 x7 x8 x9 [x10],
    kaz x0 x1 x2 x3 x4 x5 x6 x7 x8 x9 x10 ||
      (x3 == kv x5 || k4r x6 x7 x8 x9),
    kaz x0 x1 x2 x3 x4 x5 x6 x7 x8 x9 x10 || (x3 == kv x5 || stNd x0 x1 x2 x4 x5 x10 x3 x6 x7 x8 x9)]

def kw7 : List SV → List Entry → Option Out
  | [.one ⟨true, [.val (.int .i64 x0), .val (.int .i64 x1), .val (.int .i64 x2), .ref 0, .ref 1]⟩, .one ⟨true, [.val (.int .i64 x3), .ref 2, .ref 3, .ref 4, .ref 5]⟩, .one ⟨false, [.ref 6]⟩], [.row false 178 (.pair (.int .i64) (.pair (.str) (.int .i64))) x4, .row false 150 (.pair (.int .i64) (.int .i64)) x5, .row false 2 (.int .i64) x6, .row false 2 (.int .i64) x7, .row false 2 (.int .i64) x8, .row false 172 (.pair (.int .i64) (.pair (.int .i64) (.int .i64))) x9, .row false 2 (.int .i64) x10] => some ⟨(.tup [⟨true, [(.val (.int IntKind.i64 (krl x0 x1 x2 x3 x4 x5 x6 x7 x8 x9 x10))), (.ref 7), (.ref 8), (.ref 9), (.ref 10)]⟩, ⟨false, [(.val (.int IntKind.i64 (krz x0 x1 x2 x3 x4 x5 x6 x7 x8 x9 x10)))]⟩]), [(.row false 178 (CTy.pair (CTy.int IntKind.i64) (CTy.pair CTy.str (CTy.int IntKind.i64))) x4), (.row false 150 (CTy.pair (CTy.int IntKind.i64) (CTy.int IntKind.i64)) x5), (.row false 2 (CTy.int IntKind.i64) x6), (.row false 2 (CTy.int IntKind.i64) x7), (.row false 2 (CTy.int IntKind.i64) x8), (.row false 172 (CTy.pair (CTy.int IntKind.i64) (CTy.pair (CTy.int IntKind.i64) (CTy.int IntKind.i64))) x9), (.row false 2 (CTy.int IntKind.i64) x10)], [(.row true 2 (CTy.int IntKind.i64) (krh x0 x1 x2 x3 x4 x5 x6 x7 x8 x9 x10)), (.row true 2 (CTy.int IntKind.i64) (krj x0 x1 x2 x3 x4 x5 x6 x7 x8 x9 x10)), (.row true 2 (CTy.int IntKind.i64) (krw x0 x1 x2 x3 x4 x5 x6 x7 x8 x9 x10)), (.row true 172 (CTy.pair (CTy.int IntKind.i64) (CTy.pair (CTy.int IntKind.i64) (CTy.int IntKind.i64))) (ks4 x0 x1 x2 x3 x4 x5 x6 x7 x8 x9 x10))], [(krf x0 x1 x2 x3 x4 x5 x6 x7 x8 x9 x10)]⟩
  | _, _ => none

def k12h : PF Tryz.prog := PF.ofG Tryz.prog [kmv, khj, PF.lend khj, PF.fz khj, k2s, PF.lend k2s, PF.fz k2s, k3c, PF.lend k3c, PF.fz k3c] [] hmix 52 Tryz.f52 Tryz.func52 (fun c _ => LOk.nil c) kw7 (by
  intro vs es r h; unfold kw7 at h; split at h
  · cases h; kernel_rfl
  · cases h)

def kar (x0 : Int) (x1 : Int) (x2 : Int) (x3 : Int) (x4 : List (Int × ByteArray × Int)) (x5 : List (Int × Int)) (x6 : List Int) (x7 : List Int) (x8 : List Int) (x9 : List (Int × Int × Int)) (x10 : List Int) : Bool :=
  klw x0 x1 x2 x3 x4 x5 x6 x7 x8 x9 x10 != (0 : Int)

def kq9 (x0 : Int) (x1 : Int) (x2 : Int) (x3 : Int) (x4 : List (Int × ByteArray × Int)) (x5 : List (Int × Int)) (x6 : List Int) (x7 : List Int) (x8 : List Int) (x9 : List (Int × Int × Int)) (x10 : List Int) : Int :=
  bif kar x0 x1 x2 x3 x4 x5 x6 x7 x8 x9 x10 then (0 : Int) else Prod.fst (fnM x4 x5 x10 x3 x6 x7 x8 x9)

def kq6 (x0 : Int) (x1 : Int) (x2 : Int) (x3 : Int) (x4 : List (Int × ByteArray × Int)) (x5 : List (Int × Int)) (x6 : List Int) (x7 : List Int) (x8 : List Int) (x9 : List (Int × Int × Int)) (x10 : List Int) : Int :=
  bif kar x0 x1 x2 x3 x4 x5 x6 x7 x8 x9 x10 then klw x0 x1 x2 x3 x4 x5 x6 x7 x8 x9 x10 else (0 : Int)

def kqd (x0 : Int) (x1 : Int) (x2 : Int) (x3 : Int) (x4 : List (Int × ByteArray × Int)) (x5 : List (Int × Int)) (x6 : List Int) (x7 : List Int) (x8 : List Int) (x9 : List (Int × Int × Int)) (x10 : List Int) : List Int :=
  bif kar x0 x1 x2 x3 x4 x5 x6 x7 x8 x9 x10 then [] else Prod.fst (Prod.snd (fnM x4 x5 x10 x3 x6 x7 x8 x9))

def kpy (x0 : Int) (x1 : Int) (x2 : Int) (x3 : Int) (x4 : List (Int × ByteArray × Int)) (x5 : List (Int × Int)) (x6 : List Int) (x7 : List Int) (x8 : List Int) (x9 : List (Int × Int × Int)) (x10 : List Int) : List Int :=
  bif kar x0 x1 x2 x3 x4 x5 x6 x7 x8 x9 x10 then [] else Prod.fst (Prod.snd (Prod.snd (fnM x4 x5 x10 x3 x6 x7 x8 x9)))

def kpq (x0 : Int) (x1 : Int) (x2 : Int) (x3 : Int) (x4 : List (Int × ByteArray × Int)) (x5 : List (Int × Int)) (x6 : List Int) (x7 : List Int) (x8 : List Int) (x9 : List (Int × Int × Int)) (x10 : List Int) : List Int :=
  bif kar x0 x1 x2 x3 x4 x5 x6 x7 x8 x9 x10 then [] else Prod.fst (Prod.snd (Prod.snd (Prod.snd (fnM x4 x5 x10 x3 x6 x7 x8 x9))))

def kq7 (x0 : Int) (x1 : Int) (x2 : Int) (x3 : Int) (x4 : List (Int × ByteArray × Int)) (x5 : List (Int × Int)) (x6 : List Int) (x7 : List Int) (x8 : List Int) (x9 : List (Int × Int × Int)) (x10 : List Int) : List (Int × (Int × Int)) :=
  bif kar x0 x1 x2 x3 x4 x5 x6 x7 x8 x9 x10 then [] else Prod.snd (Prod.snd (Prod.snd (Prod.snd (fnM x4 x5 x10 x3 x6 x7 x8 x9))))

def kpz (x0 : Int) (x1 : Int) (x2 : Int) (x3 : Int) (x4 : List (Int × ByteArray × Int)) (x5 : List (Int × Int)) (x6 : List Int) (x7 : List Int) (x8 : List Int) (x9 : List (Int × Int × Int)) (x10 : List Int) : Bool :=
  allT
  [kr5 x0 x1 x2 x3 x4 x5 x6 x7 x8 x9 x10,
    kar x0 x1 x2 x3 x4 x5 x6 x7 x8 x9 x10 || runNd x0 x1 x2 x4 x5 x10 x3 x6 x7 x8 x9]

def kut : List SV → List Entry → Option Out
  | [.one ⟨true, [.val (.int .i64 x0), .val (.int .i64 x1), .val (.int .i64 x2), .ref 0, .ref 1]⟩, .one ⟨true, [.val (.int .i64 x3), .ref 2, .ref 3, .ref 4, .ref 5]⟩, .one ⟨false, [.ref 6]⟩], [.row false 178 (.pair (.int .i64) (.pair (.str) (.int .i64))) x4, .row false 150 (.pair (.int .i64) (.int .i64)) x5, .row false 2 (.int .i64) x6, .row false 2 (.int .i64) x7, .row false 2 (.int .i64) x8, .row false 172 (.pair (.int .i64) (.pair (.int .i64) (.int .i64))) x9, .row false 2 (.int .i64) x10] => some ⟨(.tup [⟨true, [(.val (.int IntKind.i64 (kq9 x0 x1 x2 x3 x4 x5 x6 x7 x8 x9 x10))), (.ref 7), (.ref 8), (.ref 9), (.ref 10)]⟩, ⟨false, [(.val (.int IntKind.i64 (kq6 x0 x1 x2 x3 x4 x5 x6 x7 x8 x9 x10)))]⟩]), [(.row false 178 (CTy.pair (CTy.int IntKind.i64) (CTy.pair CTy.str (CTy.int IntKind.i64))) x4), (.row false 150 (CTy.pair (CTy.int IntKind.i64) (CTy.int IntKind.i64)) x5), (.row false 2 (CTy.int IntKind.i64) x6), (.row false 2 (CTy.int IntKind.i64) x7), (.row false 2 (CTy.int IntKind.i64) x8), (.row false 172 (CTy.pair (CTy.int IntKind.i64) (CTy.pair (CTy.int IntKind.i64) (CTy.int IntKind.i64))) x9), (.row false 2 (CTy.int IntKind.i64) x10)], [(.row false 2 (CTy.int IntKind.i64) (kqd x0 x1 x2 x3 x4 x5 x6 x7 x8 x9 x10)), (.row false 2 (CTy.int IntKind.i64) (kpy x0 x1 x2 x3 x4 x5 x6 x7 x8 x9 x10)), (.row false 2 (CTy.int IntKind.i64) (kpq x0 x1 x2 x3 x4 x5 x6 x7 x8 x9 x10)), (.row false 172 (CTy.pair (CTy.int IntKind.i64) (CTy.pair (CTy.int IntKind.i64) (CTy.int IntKind.i64))) (kq7 x0 x1 x2 x3 x4 x5 x6 x7 x8 x9 x10))], [(kpz x0 x1 x2 x3 x4 x5 x6 x7 x8 x9 x10)]⟩
  | _, _ => none

def k10m : PF Tryz.prog := PF.ofG Tryz.prog [kog, PF.lend kog, PF.fz kog, kup, PF.lend kup, PF.fz kup] [] hmix 56 Tryz.f56 Tryz.func56 (fun c _ => LOk.nil c) kut (by
  intro vs es r h; unfold kut at h; split at h
  · cases h; kernel_rfl
  · cases h)

def kou (x0 : Int) (x1 : Int) (x2 : Int) (x3 : Int) (x4 : List (Int × ByteArray × Int)) (x5 : List (Int × Int)) (x6 : List Int) (x7 : List Int) (x8 : List Int) (x9 : List (Int × Int × Int)) (x10 : List Int) : Int :=
  kk7 x0 x1 x2 x3 x4 x5 x6 x7 x8 x9 [x10]

def k8c (x0 : Int) (x1 : Int) (x2 : Int) (x3 : Int) (x4 : List (Int × ByteArray × Int)) (x5 : List (Int × Int)) (x6 : List Int) (x7 : List Int) (x8 : List Int) (x9 : List (Int × Int × Int)) (x10 : List Int) : Bool :=
  kou x0 x1 x2 x3 x4 x5 x6 x7 x8 x9 x10 != (0 : Int)

def kpu (x0 : Int) (x1 : Int) (x2 : Int) (x3 : Int) (x4 : List (Int × ByteArray × Int)) (x5 : List (Int × Int)) (x6 : List Int) (x7 : List Int) (x8 : List Int) (x9 : List (Int × Int × Int)) (x10 : List Int) : Int :=
  bif k8c x0 x1 x2 x3 x4 x5 x6 x7 x8 x9 x10 then (0 : Int) else Prod.fst (fnM x4 x5 x10 x3 x6 x7 x8 x9)

def kq4 (x0 : Int) (x1 : Int) (x2 : Int) (x3 : Int) (x4 : List (Int × ByteArray × Int)) (x5 : List (Int × Int)) (x6 : List Int) (x7 : List Int) (x8 : List Int) (x9 : List (Int × Int × Int)) (x10 : List Int) : Int :=
  bif k8c x0 x1 x2 x3 x4 x5 x6 x7 x8 x9 x10 then kou x0 x1 x2 x3 x4 x5 x6 x7 x8 x9 x10 else (0 : Int)

def kps (x0 : Int) (x1 : Int) (x2 : Int) (x3 : Int) (x4 : List (Int × ByteArray × Int)) (x5 : List (Int × Int)) (x6 : List Int) (x7 : List Int) (x8 : List Int) (x9 : List (Int × Int × Int)) (x10 : List Int) : List Int :=
  bif k8c x0 x1 x2 x3 x4 x5 x6 x7 x8 x9 x10 then [] else Prod.fst (Prod.snd (fnM x4 x5 x10 x3 x6 x7 x8 x9))

def kq5 (x0 : Int) (x1 : Int) (x2 : Int) (x3 : Int) (x4 : List (Int × ByteArray × Int)) (x5 : List (Int × Int)) (x6 : List Int) (x7 : List Int) (x8 : List Int) (x9 : List (Int × Int × Int)) (x10 : List Int) : List Int :=
  bif k8c x0 x1 x2 x3 x4 x5 x6 x7 x8 x9 x10 then [] else Prod.fst (Prod.snd (Prod.snd (fnM x4 x5 x10 x3 x6 x7 x8 x9)))

def kqb (x0 : Int) (x1 : Int) (x2 : Int) (x3 : Int) (x4 : List (Int × ByteArray × Int)) (x5 : List (Int × Int)) (x6 : List Int) (x7 : List Int) (x8 : List Int) (x9 : List (Int × Int × Int)) (x10 : List Int) : List Int :=
  bif k8c x0 x1 x2 x3 x4 x5 x6 x7 x8 x9 x10 then [] else Prod.fst (Prod.snd (Prod.snd (Prod.snd (fnM x4 x5 x10 x3 x6 x7 x8 x9))))

def kq3 (x0 : Int) (x1 : Int) (x2 : Int) (x3 : Int) (x4 : List (Int × ByteArray × Int)) (x5 : List (Int × Int)) (x6 : List Int) (x7 : List Int) (x8 : List Int) (x9 : List (Int × Int × Int)) (x10 : List Int) : List (Int × (Int × Int)) :=
  bif k8c x0 x1 x2 x3 x4 x5 x6 x7 x8 x9 x10 then [] else Prod.snd (Prod.snd (Prod.snd (Prod.snd (fnM x4 x5 x10 x3 x6 x7 x8 x9))))

def kq1 (x0 : Int) (x1 : Int) (x2 : Int) (x3 : Int) (x4 : List (Int × ByteArray × Int)) (x5 : List (Int × Int)) (x6 : List Int) (x7 : List Int) (x8 : List Int) (x9 : List (Int × Int × Int)) (x10 : List Int) : Bool :=
  allT
  [kkr x0 x1 x2 x3 x4 x5 x6 x7 x8 x9 [x10],
    k8c x0 x1 x2 x3 x4 x5 x6 x7 x8 x9 x10 || k4r x6 x7 x8 x9,
    k8c x0 x1 x2 x3 x4 x5 x6 x7 x8 x9 x10 || runNd x0 x1 x2 x4 x5 x10 x3 x6 x7 x8 x9]

def ku6 : List SV → List Entry → Option Out
  | [.one ⟨true, [.val (.int .i64 x0), .val (.int .i64 x1), .val (.int .i64 x2), .ref 0, .ref 1]⟩, .one ⟨true, [.val (.int .i64 x3), .ref 2, .ref 3, .ref 4, .ref 5]⟩, .one ⟨false, [.ref 6]⟩], [.row false 178 (.pair (.int .i64) (.pair (.str) (.int .i64))) x4, .row false 150 (.pair (.int .i64) (.int .i64)) x5, .row false 2 (.int .i64) x6, .row false 2 (.int .i64) x7, .row false 2 (.int .i64) x8, .row false 172 (.pair (.int .i64) (.pair (.int .i64) (.int .i64))) x9, .row false 2 (.int .i64) x10] => some ⟨(.tup [⟨true, [(.val (.int IntKind.i64 (kpu x0 x1 x2 x3 x4 x5 x6 x7 x8 x9 x10))), (.ref 7), (.ref 8), (.ref 9), (.ref 10)]⟩, ⟨false, [(.val (.int IntKind.i64 (kq4 x0 x1 x2 x3 x4 x5 x6 x7 x8 x9 x10)))]⟩]), [(.row false 178 (CTy.pair (CTy.int IntKind.i64) (CTy.pair CTy.str (CTy.int IntKind.i64))) x4), (.row false 150 (CTy.pair (CTy.int IntKind.i64) (CTy.int IntKind.i64)) x5), (.row false 2 (CTy.int IntKind.i64) x6), (.row false 2 (CTy.int IntKind.i64) x7), (.row false 2 (CTy.int IntKind.i64) x8), (.row false 172 (CTy.pair (CTy.int IntKind.i64) (CTy.pair (CTy.int IntKind.i64) (CTy.int IntKind.i64))) x9), (.row false 2 (CTy.int IntKind.i64) x10)], [(.row true 2 (CTy.int IntKind.i64) (kps x0 x1 x2 x3 x4 x5 x6 x7 x8 x9 x10)), (.row true 2 (CTy.int IntKind.i64) (kq5 x0 x1 x2 x3 x4 x5 x6 x7 x8 x9 x10)), (.row true 2 (CTy.int IntKind.i64) (kqb x0 x1 x2 x3 x4 x5 x6 x7 x8 x9 x10)), (.row true 172 (CTy.pair (CTy.int IntKind.i64) (CTy.pair (CTy.int IntKind.i64) (CTy.int IntKind.i64))) (kq3 x0 x1 x2 x3 x4 x5 x6 x7 x8 x9 x10))], [(kq1 x0 x1 x2 x3 x4 x5 x6 x7 x8 x9 x10)]⟩
  | _, _ => none

def k10e : PF Tryz.prog := PF.ofG Tryz.prog [kl9, khj, PF.lend khj, PF.fz khj, k3c, PF.lend k3c, PF.fz k3c] [] hmix 57 Tryz.f57 Tryz.func57 (fun c _ => LOk.nil c) ku6 (by
  intro vs es r h; unfold ku6 at h; split at h
  · cases h; kernel_rfl
  · cases h)

end Go.SX

namespace Go.SX
open Go.Proofs
set_option maxRecDepth 100000

def mhCode (i v o : Int) (bs : List TM) (st : List IN) (k : Int) (stk xs os : List Int) (ss : List BS3) (l : List (List Int)) : Int := bif !codeB i v o bs st then 1 else bif !(mchB i v o bs st k stk xs os ss && l.all (bitsB i)) then 2 else 0
def mhNd (bs : List TM) (stk xs os : List Int) (l : List (List Int)) : Bool := tsOk bs && (leN stk.length 1048576 && (leN xs.length 1048576 && (leN os.length 1048576 && listNd l)))

def k55 (y2 : Int) (b : List Int) : (Unit) → Nat ⊕ (Unit)
  | _ => (bif ((kjt ((b)) y2)) then (.inl 0) else (.inr ()))

def k27 (y2 : Int) (y3 : Int) (y4 : Int) (y5 : List (List Int)) (y6 : List (Int × (ByteArray × Int))) (y7 : List (Int × Int)) (i : Nat) : (Unit) → k1r
  | _ => ((i : Int), (↑(List.length y5) : Int), y2, y3, y4, y5, y6, y7)

def kbb : k1r → Unit
  | (_, _, _, _, _, _, _, _) => ()

theorem koo (y2 : Int) (y3 : Int) (y4 : Int) (y5 : List (List Int)) (y6 : List (Int × (ByteArray × Int))) (y7 : List (Int × Int))  (hn : y5.length ≤ 9223372036854775807) (hA : ∀ x ∈ y5, x.length ≤ 9223372036854775807) :
    k15.fin ((0 : Int), (↑(List.length y5) : Int), y2, y3, y4, y5, y6, y7) = true ∧ k15.res ((0 : Int), (↑(List.length y5) : Int), y2, y3, y4, y5, y6, y7) = ((walkL (k55 y2) 1 y5 0 ()).1, (k27 y2 y3 y4 y5 y6 y7) (walkL (k55 y2) 1 y5 0 ()).2.1 (walkL (k55 y2) 1 y5 0 ()).2.2) := by
  have key := k15.along (k27 y2 y3 y4 y5 y6 y7) kbb (k55 y2) 1 (fun _ _ => True) y5 () (by trivial) (by simp only [k15, k27]; omega) (fun i b a hb hI => ?_) (fun a hI => ?_)
  · exact key
  · obtain ⟨⟩ := a
    have hlt := (List.getElem?_eq_some_iff.1 hb).1
    have hget : ∀ d, Option.getD y5[i]? d = b := fun d => by rw [hb]; rfl
    have hw := wrap64 hlt hn
    have hdec : ltI (i : Int) (y5.length : Int) = true := ltI_t (by omega)
    have hnn : leI (0 : Int) (i : Int) = true := leI_t (by omega)
    have hltd : ltN i y5.length = true := ltN_t hlt
    refine ⟨?_, ?_, ?_, ?_⟩
    · have hg2 : k26 (i : Int) y5 = b := by simp only [k26, Int.toNat_natCast]; exact hget _
      have h6 : leN b.length 9223372036854775807 = true := leN_t (hA b (List.mem_of_getElem? hb))
      simp [k52, k88, k81, k86, k82, k4z, k83, k4n, k15, LT.nds, allT, k27, kju, hdec, hnn, hltd, hg2, h6]
    · simp [k26, k52, k88, k81, k86, k82, k4z, k83, k4n, k15, LT.each, k27, kbb, hw]
    · have hg2 : k26 (i : Int) y5 = b := by simp only [k26, Int.toNat_natCast]; exact hget _
      simp only [k52, k4z, k4n, k15, LT.fn, k27, kbb, k55, Int.toNat_natCast, hdec, hg2, cond_true]
    · exact fun _ _ => trivial
  · obtain ⟨⟩ := a
    simp [k26, k52, k88, k81, k86, k82, k4z, k83, k4n, k15, LT.out, k27]

theorem mh_nd {bs : List TM} {stk xs os : List Int} {l : List (List Int)} (h : mhNd bs stk xs os l = true) : tsOk bs = true ∧ (stk.length ≤ 1048576 ∧ xs.length ≤ 1048576 ∧ os.length ≤ 1048576) ∧ l.length ≤ 9223372036854775807 ∧ ∀ x ∈ l, x.length ≤ 9223372036854775807 := by
  simp only [mhNd, listNd, Bool.and_eq_true, List.all_eq_true, leN_iff] at h
  exact ⟨h.1, ⟨h.2.1, h.2.2.1, h.2.2.2.1⟩, h.2.2.2.2.1, h.2.2.2.2.2⟩

theorem machCode (i v o : Int) (bs : List TM) (st : List IN) (k : Int) (stk xs os : List Int) (ss : List BS3) (l : List (List Int)) (h : mhNd bs stk xs os l = true) :
    kk7 i v o k bs st stk xs os ss l = mhCode i v o bs st k stk xs os ss l ∧ kkr i v o k bs st stk xs os ss l = true := by
  obtain ⟨hT, ⟨h1, h2, h3⟩, hl, hA⟩ := mh_nd h
  have t1 : leN stk.length 9223372036854775807 = true := leN_t (by omega)
  have t2 : leN xs.length 9223372036854775807 = true := leN_t (by omega)
  have t3 : leN os.length 9223372036854775807 = true := leN_t (by omega)
  obtain ⟨w1, w2⟩ := koo i v o l bs st hl hA
  rw [walk_stop (P := fun x => !bitsB i x) (j := 0) (fun x => rfl)] at w2
  have e5 : (l.any fun x => !bitsB i x) = !l.all (bitsB i) := by simp [List.all_eq_not_any_not]
  rw [e5] at w2
  have q : ∀ m : Nat, leI 0 (m : Int) = true := fun m => leI_t (by omega)
  have q2 : leI 0 (-1) = false := rfl
  simp only [kk7, kkr, kc3, kby, kdi, kdf, k6d, k8z, w1, w2, t1, t2, t3, mhCode, pNd, allT]
  cases hc : codeB i v o bs st with
  | false => exact ⟨rfl, rfl⟩
  | true => cases mchB i v o bs st k stk xs os ss <;> cases l.all (bitsB i) <;> simp [Nat.beq, q, q2, k27]

theorem specCode (i v o : Int) (bs : List TM) (st : List IN) (k : Int) (stk xs os : List Int) (ss : List BS3) (inp : List Int) (h : mhNd bs stk xs os [inp] = true) :
    klw i v o k bs st stk xs os ss inp = mhCode i v o bs st k stk xs os ss [inp] ∧ kr5 i v o k bs st stk xs os ss inp = true := by
  obtain ⟨hT, ⟨h1, h2, h3⟩, hl, hA⟩ := mh_nd h
  have t1 : leN stk.length 9223372036854775807 = true := leN_t (by omega)
  have t2 : leN xs.length 9223372036854775807 = true := leN_t (by omega)
  have t3 : leN os.length 9223372036854775807 = true := leN_t (by omega)
  have t4 : leN inp.length 9223372036854775807 = true := leN_t (hA inp (by simp))
  simp only [klw, kr5, mhCode, hT, pNd, t1, t2, t3, t4, allT, List.all_cons, List.all_nil, Bool.and_true]
  cases codeB i v o bs st <;> cases mchB i v o bs st k stk xs os ss <;> cases bitsB i inp <;> simp

theorem mh_ok {i v o : Int} {bs : List TM} {st : List IN} {k : Int} {stk xs os : List Int} {ss : List BS3} {inp : List Int} (h : mhCode i v o bs st k stk xs os ss [inp] = 0) : runNd i v o bs st inp k stk xs os ss = true := by
  simp only [mhCode, List.all_cons, List.all_nil, Bool.and_true] at h
  cases hc : codeB i v o bs st with
  | false => rw [hc] at h; cases h
  | true =>
    rw [hc] at h
    cases hm : mchB i v o bs st k stk xs os ss && bitsB i inp with
    | false => rw [hm] at h; cases h
    | true =>
      simp only [Bool.and_eq_true] at hm
      simp only [runNd, hc, hm.1, hm.2]; rfl

theorem run_hi {i v o : Int} {bs : List TM} {st : List IN} {inp : List Int} {k : Int} {stk xs os : List Int} {ss : List BS3} (h : runNd i v o bs st inp k stk xs os ss = true) : 0 ≤ k ∧ k ≤ st.length := by
  simp only [runNd, Bool.and_eq_true] at h
  have := mch_ok h.1 h.2.2
  exact ⟨this.lo, this.hi⟩

def ssCode (i v o : Int) (bs : List TM) (st : List IN) (k : Int) (stk xs os : List Int) (ss : List BS3) (inp : List Int) : Int := bif mhCode i v o bs st k stk xs os ss [inp] == 0 && k == (st.length : Int) then 5 else mhCode i v o bs st k stk xs os ss [inp]
def m0 : MS := (0, [], [], [], [])
def ssM (i v o : Int) (bs : List TM) (st : List IN) (k : Int) (stk xs os : List Int) (ss : List BS3) (inp : List Int) : MS := bif ssCode i v o bs st k stk xs os ss inp == 0 then stM bs st inp k stk xs os ss else m0
def sfM (i v o : Int) (bs : List TM) (st : List IN) (k : Int) (stk xs os : List Int) (ss : List BS3) (inp : List Int) : MS := bif mhCode i v o bs st k stk xs os ss [inp] == 0 then fnM bs st inp k stk xs os ss else m0

theorem k17a {i v o : Int} {bs : List TM} {st : List IN} {k : Int} {stk xs os : List Int} {ss : List BS3} {inp : List Int} (h : ssCode i v o bs st k stk xs os ss inp = 0) :
    mhCode i v o bs st k stk xs os ss [inp] = 0 ∧ (k == (st.length : Int)) = false ∧ stNd i v o bs st inp k stk xs os ss = true := by
  simp only [ssCode] at h
  cases hm : mhCode i v o bs st k stk xs os ss [inp] == 0 with
  | false =>
    rw [hm, Bool.false_and, cond_false] at h
    rw [h] at hm; cases hm
  | true =>
    rw [hm, Bool.true_and] at h
    have hm := by simpa using hm
    have hr := mh_ok hm
    obtain ⟨k0, k1⟩ := run_hi hr
    cases hk : k == (st.length : Int) with
    | true => rw [hk] at h; cases h
    | false =>
      have hk := by simpa using hk
      exact ⟨hm, rfl, by simp only [stNd, hr, ltI_t (show k < (st.length : Int) by omega)]; rfl⟩

theorem specSM (i v o : Int) (bs : List TM) (st : List IN) (k : Int) (stk xs os : List Int) (ss : List BS3) (inp : List Int) (h : mhNd bs stk xs os [inp] = true) :
    ksd i v o k bs st stk xs os ss inp = (ssM i v o bs st k stk xs os ss inp).1 ∧ ksb i v o k bs st stk xs os ss inp = ssCode i v o bs st k stk xs os ss inp ∧
    kro i v o k bs st stk xs os ss inp = (ssM i v o bs st k stk xs os ss inp).2.1 ∧ ks8 i v o k bs st stk xs os ss inp = (ssM i v o bs st k stk xs os ss inp).2.2.1 ∧
    ks6 i v o k bs st stk xs os ss inp = (ssM i v o bs st k stk xs os ss inp).2.2.2.1 ∧ ks7 i v o k bs st stk xs os ss inp = (ssM i v o bs st k stk xs os ss inp).2.2.2.2 ∧ ksg i v o k bs st stk xs os ss inp = true := by
  obtain ⟨c0, c1⟩ := specCode i v o bs st k stk xs os ss inp h
  have e : kni i v o k bs st stk xs os ss inp = ssCode i v o bs st k stk xs os ss inp := by
    simp only [kni, c0, ssCode]
    cases mhCode i v o bs st k stk xs os ss [inp] == 0 <;> rfl
  simp only [ksd, ksb, kro, ks8, ks6, ks7, ksg, kcg, e, c1, ssM, allT]
  by_cases hz : ssCode i v o bs st k stk xs os ss inp = 0
  · obtain ⟨_, _, h4⟩ := k17a hz
    simp [hz, h4]
  · have : (ssCode i v o bs st k stk xs os ss inp == 0) = false := by simpa using hz
    simp [bne, this, m0]

theorem implSM (i v o : Int) (bs : List TM) (st : List IN) (k : Int) (stk xs os : List Int) (ss : List BS3) (inp : List Int) (h : (mhNd bs stk xs os [inp] && leN ss.length 1048576) = true) :
    krl i v o k bs st stk xs os ss inp = (ssM i v o bs st k stk xs os ss inp).1 ∧ krz i v o k bs st stk xs os ss inp = ssCode i v o bs st k stk xs os ss inp ∧
    krh i v o k bs st stk xs os ss inp = (ssM i v o bs st k stk xs os ss inp).2.1 ∧ krj i v o k bs st stk xs os ss inp = (ssM i v o bs st k stk xs os ss inp).2.2.1 ∧
    krw i v o k bs st stk xs os ss inp = (ssM i v o bs st k stk xs os ss inp).2.2.2.1 ∧ ks4 i v o k bs st stk xs os ss inp = (ssM i v o bs st k stk xs os ss inp).2.2.2.2 ∧ krf i v o k bs st stk xs os ss inp = true := by
  simp only [Bool.and_eq_true] at h
  obtain ⟨h, l4⟩ := h
  obtain ⟨c0, c1⟩ := machCode i v o bs st k stk xs os ss [inp] h
  obtain ⟨_, ⟨h1, h2, h3⟩, _⟩ := mh_nd h
  have t1 : leN stk.length 1048576 = true := leN_t h1
  have t2 : leN xs.length 1048576 = true := leN_t h2
  have t3 : leN os.length 1048576 = true := leN_t h3
  have hlen : kv st = (st.length : Int) := rfl
  simp only [krl, krz, krh, krj, krw, ks4, krf, kaz, kr4, k4r, hlen, c0, c1, t1, t2, t3, l4, allT]
  by_cases hz : ssCode i v o bs st k stk xs os ss inp = 0
  · obtain ⟨z1, z2, h4⟩ := k17a hz
    simp only [ssM, hz]
    simp [z1, z2, h4]
  · have hz' : (ssCode i v o bs st k stk xs os ss inp == 0) = false := by simpa using hz
    have e : ssM i v o bs st k stk xs os ss inp = m0 := by simp only [ssM, hz', cond_false]
    rw [e]
    cases hm : mhCode i v o bs st k stk xs os ss [inp] == 0 with
    | false =>
      have e2 : ssCode i v o bs st k stk xs os ss inp = mhCode i v o bs st k stk xs os ss [inp] := by simp only [ssCode, hm, Bool.false_and, cond_false]
      simp [bne, hm, m0, e2]
    | true =>
      cases hk : k == (st.length : Int) with
      | false =>
        simp only [ssCode, hm, hk, Bool.and_false, cond_false] at hz'
        cases hz'
      | true =>
        have e2 : ssCode i v o bs st k stk xs os ss inp = 5 := by simp only [ssCode, hm, hk, Bool.and_self, cond_true]
        simp [bne, hm, m0, e2]

theorem specFM (i v o : Int) (bs : List TM) (st : List IN) (k : Int) (stk xs os : List Int) (ss : List BS3) (inp : List Int) (h : mhNd bs stk xs os [inp] = true) :
    kq9 i v o k bs st stk xs os ss inp = (sfM i v o bs st k stk xs os ss inp).1 ∧ kq6 i v o k bs st stk xs os ss inp = mhCode i v o bs st k stk xs os ss [inp] ∧
    kqd i v o k bs st stk xs os ss inp = (sfM i v o bs st k stk xs os ss inp).2.1 ∧ kpy i v o k bs st stk xs os ss inp = (sfM i v o bs st k stk xs os ss inp).2.2.1 ∧
    kpq i v o k bs st stk xs os ss inp = (sfM i v o bs st k stk xs os ss inp).2.2.2.1 ∧ kq7 i v o k bs st stk xs os ss inp = (sfM i v o bs st k stk xs os ss inp).2.2.2.2 ∧ kpz i v o k bs st stk xs os ss inp = true := by
  obtain ⟨c0, c1⟩ := specCode i v o bs st k stk xs os ss inp h
  simp only [kq9, kq6, kqd, kpy, kpq, kq7, kpz, kar, c0, c1, sfM, allT]
  by_cases h1 : mhCode i v o bs st k stk xs os ss [inp] = 0
  · simp [h1, mh_ok h1]
  · have : (mhCode i v o bs st k stk xs os ss [inp] == 0) = false := by simpa using h1
    simp [bne, this, m0]

theorem implFM (i v o : Int) (bs : List TM) (st : List IN) (k : Int) (stk xs os : List Int) (ss : List BS3) (inp : List Int) (h : (mhNd bs stk xs os [inp] && leN ss.length 1048576) = true) :
    kpu i v o k bs st stk xs os ss inp = (sfM i v o bs st k stk xs os ss inp).1 ∧ kq4 i v o k bs st stk xs os ss inp = mhCode i v o bs st k stk xs os ss [inp] ∧
    kps i v o k bs st stk xs os ss inp = (sfM i v o bs st k stk xs os ss inp).2.1 ∧ kq5 i v o k bs st stk xs os ss inp = (sfM i v o bs st k stk xs os ss inp).2.2.1 ∧
    kqb i v o k bs st stk xs os ss inp = (sfM i v o bs st k stk xs os ss inp).2.2.2.1 ∧ kq3 i v o k bs st stk xs os ss inp = (sfM i v o bs st k stk xs os ss inp).2.2.2.2 ∧ kq1 i v o k bs st stk xs os ss inp = true := by
  simp only [Bool.and_eq_true] at h
  obtain ⟨h, l4⟩ := h
  obtain ⟨c0, c1⟩ := machCode i v o bs st k stk xs os ss [inp] h
  obtain ⟨_, ⟨h1, h2, h3⟩, _⟩ := mh_nd h
  have t1 : leN stk.length 1048576 = true := leN_t h1
  have t2 : leN xs.length 1048576 = true := leN_t h2
  have t3 : leN os.length 1048576 = true := leN_t h3
  simp only [kpu, kq4, kps, kq5, kqb, kq3, kq1, k8c, kou, k4r, c0, c1, sfM, t1, t2, t3, l4, allT]
  by_cases h1 : mhCode i v o bs st k stk xs os ss [inp] = 0
  · simp [h1, mh_ok h1]
  · have : (mhCode i v o bs st k stk xs os ss [inp] == 0) = false := by simpa using h1
    simp [bne, this, m0]

def kwt : List SV → List Entry → Option Out
  | [.one ⟨true, [.val (.int .i64 x0), .val (.int .i64 x1), .val (.int .i64 x2), .ref 0, .ref 1]⟩, .one ⟨true, [.val (.int .i64 x3), .ref 2, .ref 3, .ref 4, .ref 5]⟩, .one ⟨false, [.ref 6]⟩], [.row false 178 (.pair (.int .i64) (.pair (.str) (.int .i64))) x4, .row false 150 (.pair (.int .i64) (.int .i64)) x5, .row false 2 (.int .i64) x6, .row false 2 (.int .i64) x7, .row false 2 (.int .i64) x8, .row false 172 (.pair (.int .i64) (.pair (.int .i64) (.int .i64))) x9, .row false 2 (.int .i64) x10] => some ⟨(.tup [⟨true, [(.val (.int IntKind.i64 ((ssM x0 x1 x2 x4 x5 x3 x6 x7 x8 x9 x10).1))), (.ref 7), (.ref 8), (.ref 9), (.ref 10)]⟩, ⟨false, [(.val (.int IntKind.i64 (ssCode x0 x1 x2 x4 x5 x3 x6 x7 x8 x9 x10)))]⟩]), [(.row false 178 (CTy.pair (CTy.int IntKind.i64) (CTy.pair CTy.str (CTy.int IntKind.i64))) x4), (.row false 150 (CTy.pair (CTy.int IntKind.i64) (CTy.int IntKind.i64)) x5), (.row false 2 (CTy.int IntKind.i64) x6), (.row false 2 (CTy.int IntKind.i64) x7), (.row false 2 (CTy.int IntKind.i64) x8), (.row false 172 (CTy.pair (CTy.int IntKind.i64) (CTy.pair (CTy.int IntKind.i64) (CTy.int IntKind.i64))) x9), (.row false 2 (CTy.int IntKind.i64) x10)], [(.row false 2 (CTy.int IntKind.i64) ((ssM x0 x1 x2 x4 x5 x3 x6 x7 x8 x9 x10).2.1)), (.row false 2 (CTy.int IntKind.i64) ((ssM x0 x1 x2 x4 x5 x3 x6 x7 x8 x9 x10).2.2.1)), (.row false 2 (CTy.int IntKind.i64) ((ssM x0 x1 x2 x4 x5 x3 x6 x7 x8 x9 x10).2.2.2.1)), (.row false 172 (CTy.pair (CTy.int IntKind.i64) (CTy.pair (CTy.int IntKind.i64) (CTy.int IntKind.i64))) ((ssM x0 x1 x2 x4 x5 x3 x6 x7 x8 x9 x10).2.2.2.2))], [mhNd x4 x6 x7 x8 [x10]]⟩
  | _, _ => none

def ks5 : PF Tryz.prog := PF.alt k12o kwt (by
  intro args es o h hnd; unfold kwt at h; split at h
  · rename_i x0 x1 x2 x3 x4 x5 x6 x7 x8 x9 x10
    cases h
    have hnd := nd_fst hnd
    have hh := specSM x0 x1 x2 x4 x5 x3 x6 x7 x8 x9 x10 hnd
    obtain ⟨e0, e1, e2, e3, e4, e5, en⟩ := hh
    exact altok rfl (nd_one en) (by simp only [e0, e1] <;> rfl) rfl (by simp only [e2, e3, e4, e5] <;> rfl)
  · cases h)

def kwn : List SV → List Entry → Option Out
  | [.one ⟨true, [.val (.int .i64 x0), .val (.int .i64 x1), .val (.int .i64 x2), .ref 0, .ref 1]⟩, .one ⟨true, [.val (.int .i64 x3), .ref 2, .ref 3, .ref 4, .ref 5]⟩, .one ⟨false, [.ref 6]⟩], [.row false 178 (.pair (.int .i64) (.pair (.str) (.int .i64))) x4, .row false 150 (.pair (.int .i64) (.int .i64)) x5, .row false 2 (.int .i64) x6, .row false 2 (.int .i64) x7, .row false 2 (.int .i64) x8, .row false 172 (.pair (.int .i64) (.pair (.int .i64) (.int .i64))) x9, .row false 2 (.int .i64) x10] => some ⟨(.tup [⟨true, [(.val (.int IntKind.i64 ((ssM x0 x1 x2 x4 x5 x3 x6 x7 x8 x9 x10).1))), (.ref 7), (.ref 8), (.ref 9), (.ref 10)]⟩, ⟨false, [(.val (.int IntKind.i64 (ssCode x0 x1 x2 x4 x5 x3 x6 x7 x8 x9 x10)))]⟩]), [(.row false 178 (CTy.pair (CTy.int IntKind.i64) (CTy.pair CTy.str (CTy.int IntKind.i64))) x4), (.row false 150 (CTy.pair (CTy.int IntKind.i64) (CTy.int IntKind.i64)) x5), (.row false 2 (CTy.int IntKind.i64) x6), (.row false 2 (CTy.int IntKind.i64) x7), (.row false 2 (CTy.int IntKind.i64) x8), (.row false 172 (CTy.pair (CTy.int IntKind.i64) (CTy.pair (CTy.int IntKind.i64) (CTy.int IntKind.i64))) x9), (.row false 2 (CTy.int IntKind.i64) x10)], [(.row true 2 (CTy.int IntKind.i64) ((ssM x0 x1 x2 x4 x5 x3 x6 x7 x8 x9 x10).2.1)), (.row true 2 (CTy.int IntKind.i64) ((ssM x0 x1 x2 x4 x5 x3 x6 x7 x8 x9 x10).2.2.1)), (.row true 2 (CTy.int IntKind.i64) ((ssM x0 x1 x2 x4 x5 x3 x6 x7 x8 x9 x10).2.2.2.1)), (.row true 172 (CTy.pair (CTy.int IntKind.i64) (CTy.pair (CTy.int IntKind.i64) (CTy.int IntKind.i64))) ((ssM x0 x1 x2 x4 x5 x3 x6 x7 x8 x9 x10).2.2.2.2))], [mhNd x4 x6 x7 x8 [x10] && leN x9.length 1048576]⟩
  | _, _ => none

def krr : PF Tryz.prog := PF.alt k12h kwn (by
  intro args es o h hnd; unfold kwn at h; split at h
  · rename_i x0 x1 x2 x3 x4 x5 x6 x7 x8 x9 x10
    cases h
    have hnd := nd_fst hnd
    have hh := implSM x0 x1 x2 x4 x5 x3 x6 x7 x8 x9 x10 hnd
    obtain ⟨e0, e1, e2, e3, e4, e5, en⟩ := hh
    exact altok rfl (nd_one en) (by simp only [e0, e1] <;> rfl) rfl (by simp only [e2, e3, e4, e5] <;> rfl)
  · cases h)

def kuq : List SV → List Entry → Option Out
  | [.one ⟨true, [.val (.int .i64 x0), .val (.int .i64 x1), .val (.int .i64 x2), .ref 0, .ref 1]⟩, .one ⟨true, [.val (.int .i64 x3), .ref 2, .ref 3, .ref 4, .ref 5]⟩, .one ⟨false, [.ref 6]⟩], [.row false 178 (.pair (.int .i64) (.pair (.str) (.int .i64))) x4, .row false 150 (.pair (.int .i64) (.int .i64)) x5, .row false 2 (.int .i64) x6, .row false 2 (.int .i64) x7, .row false 2 (.int .i64) x8, .row false 172 (.pair (.int .i64) (.pair (.int .i64) (.int .i64))) x9, .row false 2 (.int .i64) x10] => some ⟨(.tup [⟨true, [(.val (.int IntKind.i64 ((sfM x0 x1 x2 x4 x5 x3 x6 x7 x8 x9 x10).1))), (.ref 7), (.ref 8), (.ref 9), (.ref 10)]⟩, ⟨false, [(.val (.int IntKind.i64 (mhCode x0 x1 x2 x4 x5 x3 x6 x7 x8 x9 [x10])))]⟩]), [(.row false 178 (CTy.pair (CTy.int IntKind.i64) (CTy.pair CTy.str (CTy.int IntKind.i64))) x4), (.row false 150 (CTy.pair (CTy.int IntKind.i64) (CTy.int IntKind.i64)) x5), (.row false 2 (CTy.int IntKind.i64) x6), (.row false 2 (CTy.int IntKind.i64) x7), (.row false 2 (CTy.int IntKind.i64) x8), (.row false 172 (CTy.pair (CTy.int IntKind.i64) (CTy.pair (CTy.int IntKind.i64) (CTy.int IntKind.i64))) x9), (.row false 2 (CTy.int IntKind.i64) x10)], [(.row false 2 (CTy.int IntKind.i64) ((sfM x0 x1 x2 x4 x5 x3 x6 x7 x8 x9 x10).2.1)), (.row false 2 (CTy.int IntKind.i64) ((sfM x0 x1 x2 x4 x5 x3 x6 x7 x8 x9 x10).2.2.1)), (.row false 2 (CTy.int IntKind.i64) ((sfM x0 x1 x2 x4 x5 x3 x6 x7 x8 x9 x10).2.2.2.1)), (.row false 172 (CTy.pair (CTy.int IntKind.i64) (CTy.pair (CTy.int IntKind.i64) (CTy.int IntKind.i64))) ((sfM x0 x1 x2 x4 x5 x3 x6 x7 x8 x9 x10).2.2.2.2))], [mhNd x4 x6 x7 x8 [x10]]⟩
  | _, _ => none

def kpt : PF Tryz.prog := PF.alt k10m kuq (by
  intro args es o h hnd; unfold kuq at h; split at h
  · rename_i x0 x1 x2 x3 x4 x5 x6 x7 x8 x9 x10
    cases h
    have hnd := nd_fst hnd
    have hh := specFM x0 x1 x2 x4 x5 x3 x6 x7 x8 x9 x10 hnd
    obtain ⟨e0, e1, e2, e3, e4, e5, en⟩ := hh
    exact altok rfl (nd_one en) (by simp only [e0, e1] <;> rfl) rfl (by simp only [e2, e3, e4, e5] <;> rfl)
  · cases h)

def kui : List SV → List Entry → Option Out
  | [.one ⟨true, [.val (.int .i64 x0), .val (.int .i64 x1), .val (.int .i64 x2), .ref 0, .ref 1]⟩, .one ⟨true, [.val (.int .i64 x3), .ref 2, .ref 3, .ref 4, .ref 5]⟩, .one ⟨false, [.ref 6]⟩], [.row false 178 (.pair (.int .i64) (.pair (.str) (.int .i64))) x4, .row false 150 (.pair (.int .i64) (.int .i64)) x5, .row false 2 (.int .i64) x6, .row false 2 (.int .i64) x7, .row false 2 (.int .i64) x8, .row false 172 (.pair (.int .i64) (.pair (.int .i64) (.int .i64))) x9, .row false 2 (.int .i64) x10] => some ⟨(.tup [⟨true, [(.val (.int IntKind.i64 ((sfM x0 x1 x2 x4 x5 x3 x6 x7 x8 x9 x10).1))), (.ref 7), (.ref 8), (.ref 9), (.ref 10)]⟩, ⟨false, [(.val (.int IntKind.i64 (mhCode x0 x1 x2 x4 x5 x3 x6 x7 x8 x9 [x10])))]⟩]), [(.row false 178 (CTy.pair (CTy.int IntKind.i64) (CTy.pair CTy.str (CTy.int IntKind.i64))) x4), (.row false 150 (CTy.pair (CTy.int IntKind.i64) (CTy.int IntKind.i64)) x5), (.row false 2 (CTy.int IntKind.i64) x6), (.row false 2 (CTy.int IntKind.i64) x7), (.row false 2 (CTy.int IntKind.i64) x8), (.row false 172 (CTy.pair (CTy.int IntKind.i64) (CTy.pair (CTy.int IntKind.i64) (CTy.int IntKind.i64))) x9), (.row false 2 (CTy.int IntKind.i64) x10)], [(.row true 2 (CTy.int IntKind.i64) ((sfM x0 x1 x2 x4 x5 x3 x6 x7 x8 x9 x10).2.1)), (.row true 2 (CTy.int IntKind.i64) ((sfM x0 x1 x2 x4 x5 x3 x6 x7 x8 x9 x10).2.2.1)), (.row true 2 (CTy.int IntKind.i64) ((sfM x0 x1 x2 x4 x5 x3 x6 x7 x8 x9 x10).2.2.2.1)), (.row true 172 (CTy.pair (CTy.int IntKind.i64) (CTy.pair (CTy.int IntKind.i64) (CTy.int IntKind.i64))) ((sfM x0 x1 x2 x4 x5 x3 x6 x7 x8 x9 x10).2.2.2.2))], [mhNd x4 x6 x7 x8 [x10] && leN x9.length 1048576]⟩
  | _, _ => none

def kq0 : PF Tryz.prog := PF.alt k10e kui (by
  intro args es o h hnd; unfold kui at h; split at h
  · rename_i x0 x1 x2 x3 x4 x5 x6 x7 x8 x9 x10
    cases h
    have hnd := nd_fst hnd
    have hh := implFM x0 x1 x2 x4 x5 x3 x6 x7 x8 x9 x10 hnd
    obtain ⟨e0, e1, e2, e3, e4, e5, en⟩ := hh
    exact altok rfl (nd_one en) (by simp only [e0, e1] <;> rfl) rfl (by simp only [e2, e3, e4, e5] <;> rfl)
  · cases h)

end Go.SX

namespace Go.SX
open Go.Proofs
set_option maxRecDepth 100000

def k8a (x3 : Int) (x4 : List (Int × ByteArray × Int)) (x5 : List (Int × Int)) : Int :=
  bif ltI (szTs x3 x4) (0 : Int) then (-1 : Int)
  else bif ltI (szL (szTs x3 x4) (List.length x5)) (0 : Int) then (-1 : Int) else szL (szTs x3 x4) (List.length x5)

def kt0 (x3 : Int) (x4 : List (Int × ByteArray × Int)) (x5 : List (Int × Int)) : Bool :=
  allT
  [leN (List.length x4) (9223372036854775807 : Nat) && (leI (-1 : Int) x3 && leI x3 (1048576 : Int)),
    ltI (szTs x3 x4) (0 : Int) ||
      leN (List.length x5) (9223372036854775807 : Nat) && (leI (-1 : Int) (szTs x3 x4) && leI (szTs x3 x4) (1048576 : Int))]

def k135 : List SV → List Entry → Option Out
  | [.one ⟨true, [.val (.int .i64 _x0), .val (.int .i64 _x1), .val (.int .i64 _x2), .ref 0, .ref 1]⟩, .one ⟨false, [.val (.int .i64 x3)]⟩], [.row false 175 (.pair (.int .i64) (.pair (.str) (.int .i64))) x4, .row false 183 (.pair (.int .i64) (.int .i64)) x5] => some ⟨(.one ⟨false, [(.val (.int IntKind.i64 (k8a x3 x4 x5)))]⟩), [(.row false 175 (CTy.pair (CTy.int IntKind.i64) (CTy.pair CTy.str (CTy.int IntKind.i64))) x4), (.row false 183 (CTy.pair (CTy.int IntKind.i64) (CTy.int IntKind.i64)) x5)], [], [(kt0 x3 x4 x5)]⟩
  | _, _ => none

def kqg : PF Tryz.prog := PF.ofG Tryz.prog [kxp, PF.lend kxp, PF.fz kxp, kp3, PF.lend kp3, PF.fz kp3] [] hmix 15 Tryz.f15 Tryz.func15 (fun c _ => LOk.nil c) k135 (by
  intro vs es r h; unfold k135 at h; split at h
  · cases h; kernel_rfl
  · cases h)

def kg7 (x3 : List (Int × ByteArray × Int)) (x4 : List (Int × Int)) : Bool :=
  allT [leN (List.length x3) (1048576 : Nat), leN (List.length x4) (1048576 : Nat)]

def k13i : List SV → List Entry → Option Out
  | [.one ⟨true, [.val (.int .i64 x0), .val (.int .i64 x1), .val (.int .i64 x2), .ref 0, .ref 1]⟩], [.row false 175 (.pair (.int .i64) (.pair (.str) (.int .i64))) x3, .row false 183 (.pair (.int .i64) (.int .i64)) x4] => some ⟨(.one ⟨true, [(.val (.int IntKind.i64 x0)), (.val (.int IntKind.i64 x1)), (.val (.int IntKind.i64 x2)), (.ref 2), (.ref 3)]⟩), [(.row false 175 (CTy.pair (CTy.int IntKind.i64) (CTy.pair CTy.str (CTy.int IntKind.i64))) x3), (.row false 183 (CTy.pair (CTy.int IntKind.i64) (CTy.int IntKind.i64)) x4)], [(.row true 178 (CTy.pair (CTy.int IntKind.i64) (CTy.pair CTy.str (CTy.int IntKind.i64))) x3), (.row true 150 (CTy.pair (CTy.int IntKind.i64) (CTy.int IntKind.i64)) x4)], [(kg7 x3 x4)]⟩
  | _, _ => none

def kqf : PF Tryz.prog := PF.ofG Tryz.prog [kx4, PF.lend kx4, PF.fz kx4, kpc, PF.lend kpc, PF.fz kpc] [] hmix 18 Tryz.f18 Tryz.func18 (fun c _ => LOk.nil c) k13i (by
  intro vs es r h; unfold k13i at h; split at h
  · cases h; kernel_rfl
  · cases h)

def k1y (x0 : Int) (x1 : Int) (x2 : Int) (x3 : Int) (x4 : Int) (x5 : Int) (x6 : List (Int × ByteArray × Int)) (x7 : List (Int × Int)) (x8 : List (Int × ByteArray × Int)) (x9 : List (Int × Int)) : Bool :=
  bif x0 != x3 then false
  else bif x1 != x4 then false else bif x2 != x5 then false else bif !eqTs x6 x8 then false else bif !eqIs x7 x9 then false else true

def ko7 (x0 : Int) (x1 : Int) (x2 : Int) (x3 : Int) (x4 : Int) (x5 : Int) (x6 : List (Int × ByteArray × Int)) (x7 : List (Int × Int)) (x8 : List (Int × ByteArray × Int)) : Bool :=
  allT
  [x0 != x3 || (x1 != x4 || (x2 != x5 || leN (List.length x6) (9223372036854775807 : Nat))),
    x0 != x3 || (x1 != x4 || (x2 != x5 || (!eqTs x6 x8 || leN (List.length x7) (9223372036854775807 : Nat))))]

def k13m : List SV → List Entry → Option Out
  | [.one ⟨true, [.val (.int .i64 x0), .val (.int .i64 x1), .val (.int .i64 x2), .ref 0, .ref 1]⟩, .one ⟨true, [.val (.int .i64 x3), .val (.int .i64 x4), .val (.int .i64 x5), .ref 2, .ref 3]⟩], [.row false 178 (.pair (.int .i64) (.pair (.str) (.int .i64))) x6, .row false 150 (.pair (.int .i64) (.int .i64)) x7, .row false 178 (.pair (.int .i64) (.pair (.str) (.int .i64))) x8, .row false 150 (.pair (.int .i64) (.int .i64)) x9] => some ⟨(.one ⟨false, [(.val (.bool (k1y x0 x1 x2 x3 x4 x5 x6 x7 x8 x9)))]⟩), [(.row false 178 (CTy.pair (CTy.int IntKind.i64) (CTy.pair CTy.str (CTy.int IntKind.i64))) x6), (.row false 150 (CTy.pair (CTy.int IntKind.i64) (CTy.int IntKind.i64)) x7), (.row false 178 (CTy.pair (CTy.int IntKind.i64) (CTy.pair CTy.str (CTy.int IntKind.i64))) x8), (.row false 150 (CTy.pair (CTy.int IntKind.i64) (CTy.int IntKind.i64)) x9)], [], [(ko7 x0 x1 x2 x3 x4 x5 x6 x7 x8)]⟩
  | _, _ => none

def kqi : PF Tryz.prog := PF.ofG Tryz.prog [kxc, PF.lend kxc, PF.fz kxc, kp9, PF.lend kp9, PF.fz kp9] [] hmix 22 Tryz.f22 Tryz.func22 (fun c _ => LOk.nil c) k13m (by
  intro vs es r h; unfold k13m at h; split at h
  · cases h; kernel_rfl
  · cases h)

def ko0 (x3 : Int) (x4 : List (Int × ByteArray × Int)) : Int :=
  x3 + (3 : Int) * (↑(List.length x4) : Int)

def k91 (x3 : Int) (x4 : List (Int × ByteArray × Int)) (x5 : List (Int × Int)) : Int :=
  ko0 x3 x4 + (2 : Int) * (↑(List.length x5) : Int)

def k14y (x3 : Int) (x4 : List (Int × ByteArray × Int)) : List (Int × (ByteArray × Int)) :=
  kuu x3 x4

def k153 (x3 : Int) (x4 : List (Int × ByteArray × Int)) (x5 : List (Int × Int)) : List (Int × Int) :=
  knf (ko0 x3 x4) x5

def kph (x3 : Int) (x4 : List (Int × ByteArray × Int)) (x5 : List (Int × Int)) : Bool :=
  allT
  [mkOk3 (3 : Nat) x3 (List.length x4) && leN (List.length x4) (9223372036854775807 : Nat),
    mkOk3 (2 : Nat) (ko0 x3 x4) (List.length x5) && leN (List.length x5) (9223372036854775807 : Nat)]

def k103 : List SV → List Entry → Option Out
  | [.one ⟨true, [.val (.int .i64 _x0), .val (.int .i64 _x1), .val (.int .i64 _x2), .ref 0, .ref 1]⟩, .one ⟨false, [.val (.int .i64 x3)]⟩], [.row true 178 (.pair (.int .i64) (.pair (.str) (.int .i64))) x4, .row true 150 (.pair (.int .i64) (.int .i64)) x5] => some ⟨(.one ⟨false, [(.val (.int IntKind.i64 (k91 x3 x4 x5)))]⟩), [(.row true 178 (CTy.pair (CTy.int IntKind.i64) (CTy.pair CTy.str (CTy.int IntKind.i64))) (k14y x3 x4)), (.row true 150 (CTy.pair (CTy.int IntKind.i64) (CTy.int IntKind.i64)) (k153 x3 x4 x5))], [], [(kph x3 x4 x5)]⟩
  | _, _ => none

def kn8 : PF Tryz.prog := PF.ofG Tryz.prog [kug, PF.lend kug, PF.fz kug, kng, PF.lend kng, PF.fz kng] [] hmix 23 Tryz.f23 Tryz.func23 (fun c _ => LOk.nil c) k103 (by
  intro vs es r h; unfold k103 at h; split at h
  · cases h; kernel_rfl
  · cases h)

end Go.SX
